/- Bytes, numbers, names and operators in texts: spec.l1Sign and its kin. (printed by gen_byt.py) -/
import Derived.Test.YtellfcpffcipcaaGreatDoorZCkA
import Derived.Test.YtellfcpffcipcaaGreatDoorZCk5
namespace Go.Proofs.YtellfcpffcipcaaGreatDoor
attribute [local irreducible] Run CondV aF aT
open Go Go.RowKit
theorem pt {s:Bs} {i:Nat} (h:i<s.length) (c:Nat):sgn s i c=decide (s[i].toNat=c):=by simp [sgn,List.getElem?_eq_getElem h]
theorem ZU {s:Bs} {i:Nat} (h:¬ i<s.length) (c:Nat):sgn s i c=false:=by simp [sgn,List.getElem?_eq_none (Nat.le_of_not_lt h)]
theorem sZ {s:Bs} {i:Nat} (h:i<s.length) (a b:Nat):btw s i a b=(decide (a<=s[i].toNat) && decide (s[i].toNat<=b)):=by simp [btw,List.getElem?_eq_getElem h]
theorem U4 {s:Bs} {i:Nat} (h:¬ i<s.length) (a b:Nat):btw s i a b=false:=by simp [btw,List.getElem?_eq_none (Nat.le_of_not_lt h)]
theorem HG {s:Bs} {i a b:Nat} (h:btw s i a b=true):i<s.length:=by
 rcases O6 i s.length with f|f
 ·exact f
 ·rw [U4 (by omega)] at h;cases h
theorem lI {s:Bs} {i c:Nat} (h:sgn s i c=true):i<s.length:=by
 rcases O6 i s.length with a|a
 ·exact a
 ·rw [ZU (by omega)] at h;cases h
section
theorem dG (s:Bs) (i c:Nat) (S:ae):ll UL [.string (st s),ax (i:Int),.int .u8 (c:Int)] S (.bool (sgn s i c)):=by
 intro w a;apply Ga.2;dsimp only[Ga,dR];refine sG (by omega) ?_;refine rpG ?_;apply iL bg;by_cases h:i<s.length
 ·refine JZ (by omega) ?_;refine rpG ?_;refine ge bg h (bn ?_);refine rpG ?_;refine done a ?_;rw [pt h]
  congr 1
  rw [dJ];omega
 ·refine gN (by omega) ?_;refine rpG ?_;exact done a (by rw [ZU h])
theorem kw (s:Bs) (i:Nat) (S:ae):ll Rd [.string (st s),ax (i:Int)] S (.bool (dig s i)):=by
 intro w a;apply Bi.2;dsimp only[Bi,bl];refine sG (by omega) ?_;refine rpG ?_;apply iL bg;by_cases h:i<s.length
 ·refine JZ (by omega) ?_;refine rpG ?_;apply ge bg h;rw [dig,sZ h];by_cases f:48<=s[i].toNat
  ·refine sG (by omega) ?_;refine rpG ?_;refine ge bg h (gJ ?_);refine rpG ?_;refine done a ?_;rw [aL f,dz]
   congr 1
   rw [dJ];omega
  ·refine Er (by omega) ?_;refine rpG ?_;exact done a (by rw [aS f,jZ])
 ·refine gN (by omega) ?_;refine rpG ?_;exact done a (by rw [dig,U4 h])
theorem ur (s:Bs) (i:Nat) (S:ae):ll QZ [.string (st s),ax (i:Int)] S (.bool (sml s i)):=by
 intro w a;apply CK.2;dsimp only[CK,bl];refine sG (by omega) ?_;refine rpG ?_;apply iL bg;by_cases h:i<s.length
 ·refine JZ (by omega) ?_;refine rpG ?_;apply ge bg h;rw [sml,sZ h];by_cases f:97<=s[i].toNat
  ·refine sG (by omega) ?_;refine rpG ?_;refine ge bg h (gJ ?_);refine rpG ?_;refine done a ?_;rw [aL f,dz]
   congr 1
   rw [dJ];omega
  ·refine Er (by omega) ?_;refine rpG ?_;exact done a (by rw [aS f,jZ])
 ·refine gN (by omega) ?_;refine rpG ?_;exact done a (by rw [sml,U4 h])
end
theorem Wz {s:Bs} {i:Nat} (h:i<s.length):dig s i=true↔48<=s[i].toNat/\s[i].toNat<=57:=by
 rw [dig,sZ h,aZ,bt,bt]
theorem Xs {d:Bs} {j:Nat} (h:j<d.length) (m:Nat):LH (d.drop j) m=LH (d.drop (j+1)) (m * 10+(d[j].toNat - 48)):=by
 rw [dB h,LH]
section
theorem PD (d:Bs) (hd:∀ i,i<d.length->dig d i=true) (o:0<d.length) (O:d.length<=4) (r:¬ (sgn d 0 48=true/\1<d.length)) (S:ae) :
  ll Vc [.string (st d)] S (.tuple #[ax ((LH d 0:Nat):Int),.bool true]):=by
 intro w a;apply Gi.2;dsimp only[Gi,aR];have J:=(Wz o).1 (hd 0 o);refine ⟨fun t w'=>t=.bool false/\Inv w [] [] S w',?_,?_⟩
 ·refine iL bg (Vt (by omega) ?_);refine rpG ?_;refine ge (i:=0) bg o (gr (by omega) ?_);refine rpG ?_;exact ⟨rfl,a⟩
 intro U _ _ _ _ _ _ _ _ w';rintro ⟨rfl,a⟩;refine ⟨fun t w'=>t=.string (st d)/\Inv w [] [] S w',?_,?_⟩
 ·exact aE (fun l=>by cases l) (fun _=>⟨rfl,a⟩)
 intro V _ _ _ w';rintro ⟨rfl,a⟩;refine ⟨fun t w'=>t=.bool false/\Inv w [] [] S w',?_,?_⟩
 ·refine iL bg (gr (by omega) ?_);refine rpG ?_;refine iL bg (nD (by omega) ?_);refine rpG ?_;refine ge (i:=0) bg o ?_;by_cases N:d[0].toNat=48
  ·refine iZ (by omega) ?_;refine rpG ?_;refine iL bg ?_;refine nD (by
    have:¬ 1<d.length:=fun h=>r ⟨by rw [pt o,N];rfl,h⟩;omega) ?_
   refine rpG ?_;exact ⟨rfl,a⟩
  ·refine gr (by omega) ?_;refine rpG ?_;exact ⟨rfl,a⟩
 intro B;(iterate 20 intro);intro w';rintro ⟨rfl,a⟩;refine aE (fun l=>by cases l) (fun _=>?_);refine ⟨fun i n w'=>∃ j m:Nat,j<=d.length/\i=ax j/\n=ax m/\m<10 ^ j/\LH (d.drop j) m=LH d 0/\Inv w [] [] S w',fun i _ _=>d.length - (intOf i).toNat,
  ⟨0,0,bf _,rfl,rfl,by simp,rfl,a⟩,?_⟩
 intro Y _ _ D;(iterate 24 intro);intro w';rintro ⟨j,m,Z,rfl,rfl,hm,g,a⟩;have hp:10 ^ j<=10 ^ 4:=Ut (by omega) (by omega);refine iL bg (bM (aJ (fun q=>?_) (fun q=>?_)))
 ·have f:j<d.length:=by omega
  have M:=(Wz f).1 (hd j f);refine ⟨fun t w'=>t=.bool false/\Inv w [] [] S w',?_,?_⟩
  ·refine ge bg f (gN (by omega) ?_);refine rpG ?_;refine ge bg f (nD (by omega) ?_);refine rpG ?_;exact ⟨rfl,a⟩
  intro G _ _ _ _ _ _ _ _ _ w';rintro ⟨rfl,a⟩;refine aE (fun l=>by cases l) (fun _=>?_);refine Fe (by omega) (ge bg f (ZE (c:=((d[j].toNat - 48:Nat):Int)) ?_ ?_))
  ·rw [IntWalk.u8_in _ (by omega)];omega
  refine vK jd gO (IntWalk.i64_in _ (by omega)) (bA (by omega) (bA (by omega) ?_));refine ⟨⟨j+1,m * 10+(d[j].toNat - 48),f,rfl,?_,?_,?_,a⟩,by simp [intOf];omega⟩
  ·congr 1
  ·rw [Nat.pow_succ];omega
  ·rw [<- g,Xs f]
 ·have:j=d.length:=by omega
  subst this;rw [dY,LH] at g;refine ⟨fun t w'=>t=ax m/\Inv w [] [] S w',aE (fun l=>by cases l) (fun _=>⟨rfl,a⟩),?_⟩;intro D _ _ _ w';rintro ⟨rfl,a⟩;exact done a (by rw [g])
abbrev JE (k n:Int):Value:=.agg #[ax k,ax n,.string ⟨#[]⟩,hV]
theorem vY {w:World} {K:Value->World->Prop} {k n:Int} (hk:K (JE k n) w):Run Tryz.prog (bZ ab [(0,ax k),(1,ax n)]) w K:=by
 refine Run.of (v:=JE k n) (w':=w) ?_ hk;unfold bZ;rw [Sem.run_bind,run_build w ab _ #[ax k,ax n,.string ⟨#[]⟩,hV] (by kernel_rfl),Result.andThen_ok];rfl
theorem yp (n:Int) (S:ae):ll Xg [ax n] S (JE 1 n):=by
 intro w a;apply IK.2;dsimp only[IK,aR];refine aG a aV fun b w' a=>?_;refine vY (aq a 0 rfl ac rfl rfl (by simp [Value.oneCell']) fun w' a=>?_);apply bm a 0 ac rfl rfl;exact done a rfl
theorem mI (n:Int) (S:ae):ll Xj [ax n] S (JE 2 n):=by
 intro w a;apply Ib.2;dsimp only[Ib,aR];refine aG a aV fun b w' a=>?_;refine vY (aq a 0 rfl ac rfl rfl (by simp [Value.oneCell']) fun w' a=>?_);apply bm a 0 ac rfl rfl;exact done a rfl
end
theorem Qv (s:Bs) (n e:Nat):xJ s (n+1) e=if dig s e=true then xJ s n (e+1) else e:=rfl
theorem Pi (s:Bs):∀ (n e:Nat),e<=xJ s n e/\xJ s n e<=e+n
 | 0,e=>by simp [xJ]
 | n+1,e=>by
  rw [xJ];split
  ·have:=Pi s n (e+1);omega
  ·omega
theorem BM (s:Bs):∀ (n e i:Nat),e<=i->i<xJ s n e->dig s i=true
 | 0,e,i,h1,h2=>by simp [xJ] at h2;omega
 | n+1,e,i,h1,h2=>by
  rw [xJ] at h2;split at h2
  ·rename_i h
   by_cases a:e=i
   ·subst a;exact h
   ·exact BM s n (e+1) i (by omega) h2
  ·omega
theorem NQ {s:Bs} {a b i:Nat} (f:i<(cut s a b).length):∃ h:a+i<s.length,(cut s a b)[i]=s[a+i]/\a+i<b:=by
 have g:(cut s a b).length=min b s.length - a:=by simp [cut]
 refine ⟨by omega,?_,by omega⟩;simp [cut]
theorem OT {s:Bs} {a b:Nat} (f:b<=s.length):(cut s a b).length=b - a:=by simp [cut]; omega
theorem aaI {s:Bs} {a b i:Nat} (f:i<(cut s a b).length):dig (cut s a b) i=dig s (a+i):=by
 obtain ⟨h,e,_⟩:=NQ f;rw [dig,dig,sZ f,sZ h,e]
section
theorem JY {s:Bs} {i e:Nat} {t:T} (hn:Yf s i=some (t,e)) (hi:i<=100000) (S:ae) :
  ∃ n:Int,inI n/\t=.mk 2 n emptyB []/\i<=e/\e<=i+5/\ll Pg [.string (st s),ax (i:Int)] S (.tuple #[JE 2 n,ax (e:Int)]):=by
 unfold Yf at hn;obtain ⟨fr,g⟩:∃ fr,fr=if sgn s i 45=true then i+1 else i:=⟨_,rfl⟩
 simp only [<- g] at hn;obtain ⟨o,q⟩:∃ o,o=xJ s 4 fr:=⟨_,rfl⟩
 simp only [<- q] at hn;have Y:=Pi s 4 fr;rw [<- q] at Y;have a5:i<=fr/\fr<=i+1:=by rw [g];split <;> omega
 split at hn
 ·cases hn
 rename_i hc
 simp only [not_or] at hc;obtain ⟨O,U,J,V⟩:=hc;simp only [aY,cV] at hn;obtain ⟨rfl,rfl⟩:=hn;have M:∀ j,j<(cut s fr o).length->dig (cut s fr o) j=true:=fun j hj=>by
  obtain ⟨h1,h2,h3⟩:=NQ hj;rw [aaI hj];exact BM s 4 fr _ (by omega) (by rw [<- q];exact h3)
 have r:0<(cut s fr o).length:=by
  cases he:cut s fr o with
  | nil=>exact absurd he O
  | cons a l=>simp
 have a0:fr<o:=by
  obtain ⟨_,_,h3⟩:=NQ r;omega
 have B:o<=s.length:=by
  have:=BM s 4 fr (o - 1) (by omega) (by rw [<- q];omega);have:=HG this;omega
 refine ⟨_,?_,rfl,by omega,by omega,?_⟩
 ·unfold inI;split <;> omega
 intro w f;apply xY.2;dsimp only[xY,bl];refine aG f aV fun G w' f=>?_;refine ⟨fun t w'=>t=ax (fr:Int)/\Inv w [] [ay G bb ab] S w',?_,?_⟩
 ·refine Run.callPure dT dV f (dG s i 45 S) fun w' f=>?_;refine aE (fun m=>?_) (fun m=>?_)
  ·refine bA (by omega) ?_;rw [ai m] at g;exact ⟨by rw [g];congr 1,f⟩
  ·rw [af (by rw [m];decide)] at g;exact ⟨by rw [g],f⟩
 intro t6 _ _ _ _ _ w';rintro ⟨rfl,f⟩;refine ⟨fun t w'=>∃ j:Nat,t=ax (j:Int)/\fr<=j/\j<=fr+4/\xJ s (fr+4 - j) j=o/\Inv w [] [ay G bb ab] S w',fun t _=>fr+4 - (intOf t).toNat,
  ⟨fr,rfl,be _,by omega,by rw [qS];exact q.symm,f⟩,?_⟩
 intro t6 _ _ _ _ _ _ _ _ _ _ _ w';rintro ⟨j,rfl,a1,a2,D,f⟩;refine ⟨fun t w'=>t=.bool (dig s j && decide (j<fr+4))/\Inv w [] [ay G bb ab] S w',?_,?_⟩
 ·refine Run.callPure nW nY f (kw s j S) fun w' f=>?_;cases a6:dig s j
  ·refine rpG ?_;exact ⟨rfl,f⟩
  ·refine rpG ?_;refine bA (by omega) (bM ?_);refine rpG ?_;refine ⟨?_,f⟩;rw [dz]
   congr 1
   rw [dJ];omega
 intro a3 _ _ _ _ _ _ _ _ w';rintro ⟨rfl,f⟩;refine aE (fun m=>?_) (fun m=>?_)
 ·rw [aZ,bt] at m;refine bA (by omega) ?_;refine ⟨⟨j+1,rfl,by omega,by omega,?_,f⟩,by simp [intOf];omega⟩;rw [<- D,show fr+4 - j=(fr+4 - (j+1))+1 by omega,Qv,ai m.1]
 ·have Z:j=o:=by
   rw [<- D];by_cases h4:j=fr+4
   ·rw [h4,fH];rfl
   ·rw [show fr+4 - j=(fr+4 - (j+1))+1 by omega,Qv,af];intro hd;rw [hd,dz,nt] at m;omega
  subst Z;refine IG bg (by omega) B (Run.callPure Sx RQ f (PD _ M r (by rw [OT B];omega) U S) fun w' f=>?_);obtain ⟨n,hn⟩:∃ n,n=LH (cut s fr j) 0:=⟨_,rfl⟩
  rw [<- hn];refine al (v:=ax (n:Int)) rfl (al (v:=.bool true) rfl ?_);simp only [<- hn] at J V ⊢;refine ⟨fun t w'=>t=.bool false/\Inv w [] [ay G bb ab] S w',?_,?_⟩
  ·apply cq;refine rpG ?_;by_cases N:i<fr
   ·refine Vt (by omega) ?_;refine rpG ?_;apply bn;have:¬ n=0:=fun h=>J ⟨N,h⟩;rw [aS (by omega)];refine rpG ?_;refine nD (by omega) ?_;refine rpG ?_;exact ⟨rfl,f⟩
   ·refine nD (by omega) ?_;refine rpG ?_;refine nD (by omega) ?_;refine rpG ?_;exact ⟨rfl,f⟩
  intro a4 _ _ _ _ _ _ _ _ _ _ _ _ _ _ w';rintro ⟨rfl,f⟩;refine aE (fun m=>by cases m) (fun _=>?_);refine ⟨fun t w'=>t=ax (if i<fr then -(n:Int) else n)/\Inv w [] [ay G bb ab] S w',?_,?_⟩
  ·refine ew (aJ (fun m=>?_) (fun m=>?_))
   ·refine abT (by omega) ?_;exact ⟨by rw [ai (by omega)],f⟩
   ·exact ⟨by rw [af (by omega)],f⟩
  intro t8 _ _ _ _ _ w';rintro ⟨rfl,f⟩;refine Run.callPure sN sK f (mI _ S) fun w' f=>?_;refine aq f 0 rfl ac rfl rfl (by simp [Value.oneCell']) fun w' f=>?_;apply bm f 0 ac rfl rfl;exact done f rfl
end
theorem RdSl.some1 {α:Type} {S:ae} {k:Nat} {R:hZ->α->Prop} {v:Value} {xs:List α} (h:RdSl S k R v xs) (a:0<xs.length):∃ b o cap,v=eF b o xs.length cap:=by
 obtain ⟨b,o,cap,c,E,f,e,_,_⟩:=h.at_ a;exact ⟨b,o,cap,e⟩
theorem SF (s:Bs) (n e:Nat):Gn s (n+1) e=if sml s e=true then Gn s n (e+1) else e:=rfl
def WI (o:Option (Bs × Nat)):Value:=match o with
 | none=>.tuple #[.string ⟨#[]⟩,.int .i64 (-1)]
 | some (n,e)=>.tuple #[.string (st n),.int .i64 (e:Int)]
theorem VF (s:Bs) (i:Nat) {j:Nat} (h:j<signs.length) (b:Bs):lM s i (signs.drop j) b=lM s i (signs.drop (j+1)) (if decide (i+signs[j].size<=s.length)=true/\cut s i (i+signs[j].size)=bs signs[j]/\b.length<signs[j].size then bs signs[j] else b):=by
 rw [dB h,lM]
theorem QY:∀ x∈signs,x.size<=3:=by decide
section
theorem BD {s:Bs} {i:Nat} (hi:i<s.length) (hs:s.length<=100000) (S:ae):ll VG [.string (st s),ax (i:Int)] S (WI (Ci s i)):=by
 intro w f;apply EF.2;dsimp only[EF,bl];obtain ⟨E,hE⟩:∃ E,E=Gn s (s.length - i) i:=⟨_,rfl⟩
 have J:Ci s i=if i+6<E then none else if i<E then some (cut s i E,E) else if lM s i signs []=[] then none else some (lM s i signs [],i+(lM s i signs []).length):=by
  rw [Ci,<- hE]
 refine ⟨fun t w'=>∃ e:Nat,t=ax (e:Int)/\i<=e/\e<=s.length/\Gn s (s.length - e) e=E/\Inv w [] [] S w',fun t _=>s.length - (intOf t).toNat,⟨i,rfl,be _,by omega,hE.symm,f⟩,?_⟩;intro t6 _ _ _ _ _ w';rintro ⟨e,rfl,b1,b2,a2,f⟩;refine Run.callPure Ah BE f (ur s e S) fun w' f=>?_;refine aE (fun B=>?_) (fun B=>?_)
 ·have e1:=HG B;refine bA (by omega) ?_;refine ⟨⟨e+1,rfl,by omega,by omega,?_,f⟩,by simp [intOf];omega⟩;rw [<- a2,show s.length - e=(s.length - (e+1))+1 by omega,SF,ai B]
 have a9:e=E:=by
  rw [<- a2];by_cases h:e=s.length
  ·rw [h,fH,Gn]
  ·rw [show s.length - e=(s.length - (e+1))+1 by omega,SF,af (by rw [B];decide)]
 subst a9;refine bA (by omega) (ew ?_);refine aJ (fun B=>done f (by rw [J,ai (by omega)];rfl)) (fun B=>?_);rw [af (by omega)] at J;refine ew (aJ (fun B=>?_) (fun B=>?_))
 ·refine IG bg (by omega) (by omega) ?_;exact done f (by rw [J,ai (by omega)];rfl)
 rw [af (by omega)] at J;refine Run.call0 Cc A2 f (yV S) fun v I' S1 w'=>?_;rintro ⟨rfl,a3,hr⟩ _ f;obtain ⟨b,o,cap,rfl⟩:=RdSl.some1 hr (by decide);refine ⟨fun t u w'=>∃ (j:Nat) (l:Bs),j<=signs.length/\t=ax (j:Int)/\u=.string (st l)/\l.length<=3/\lM s i (signs.drop j) l=lM s i signs []/\Inv w [] [] S1 w',fun t _ _=>signs.length - (intOf t).toNat,
  ⟨0,[],bf _,rfl,rfl,by simp,rfl,f.nil⟩,?_⟩
 intro t9 _ _ t7 _ _ _ _ b3 b4 b5 b6 b7 b8 b9 c0 c1 c2 c3 c4 c5 c6 c7 c8 c9 d0 d1 d2 d3 d4 d6 d7 d9 _ _ _ _ _ _ _ _ _ _ w';rintro ⟨j,l,e0,rfl,rfl,a1,g,f⟩;have e2:signs.length=15:=rfl;refine aI hr cZ (bM (aJ (fun a7=>?_) (fun a7=>?_)))
 ·have hj:j<signs.length:=by omega
  obtain ⟨x,hx⟩:∃ x,x=signs[j]:=⟨_,rfl⟩
  have e3:x.size<=3:=by rw [hx];exact QY _ (bJ hj)
  obtain ⟨b',o',b0,c,E',fz,a8,hS,hR⟩:=hr.at_ hj;cases a8;have N:c[o+j * 1]?=some (.string x):=by rw [hx];exact aA hR 0 _ rfl
  rw [VF s i hj,<- hx] at g;refine ⟨fun u w'=>∃ q,u=.string (st q)/\q.length<=3/\lM s i (signs.drop (j+1)) q=lM s i signs []/\Inv w [] [] S1 w',?_,?_⟩
  ·refine az cZ hj (cS aP ((f.cellS hS).trans N) (jy bg ?_));by_cases M:i+x.size<=s.length
   ·cases hq:decide (st (cut s i (i+x.size))=x)
    ·skip
     refine ⟨fun D MQ Me O U V Y Z vC uk uB sT uv qW nh s6 tV rf qp lL oF nz pD mn nj lS w_=>Fx D 0 [lS=ax (i:Int),nj=ax (x.size:Int),mn=ax ((i+x.size:Nat):Int),pD=.string (st s),nz=ax (s.length:Int),oF=.bool true,lL=.bool true,qp=.string (st s),rf=ax (i:Int),tV=ax (i:Int),s6=ax (x.size:Int),nh=ax ((i+x.size:Nat):Int),qW=.string (st (cut s i (i+x.size))),uv=eF b o signs.length cap,sT=ax (j:Int),uB=eu b (o+j * 1),uk=.string x,vC=.bool false,Z=.bool false,Y=.bool false,V=undef,U=undef,O=undef,Me=undef,MQ=.bool false]/\Inv w [] [] S1 w_,⟨Fx.nil _ _,f.draw⟩,⟨?_,?_,?_,?_,?_,?_,?_,?_,?_,?_,?_,?_,?_,?_,?_,?_,?_,?_,?_,?_,?_,?_,?_,?_,?_,trivial⟩,?_⟩;all_goals (intro D bw;intros;rename_i MQ Me O U V Y Z vC uk uB sT uv qW nh s6 tV rf qp lL oF nz pD mn nj lS w_ G;have a:=G.1;obtain ⟨⟨co,cn,bP,cj,cA,bQ,m,cM,de,dv,bU,cC,cY,dK,dd,ek,eH,fl,gZ,r,iI,jU,pw,sP,P7,_⟩,f⟩:=G)
     rotate_left;rotate_left;obtain rfl:=co ‹_›;obtain rfl:=cn ‹_›;refine bA (by omega) ?_;rotate_left;rotate_left
     obtain rfl:=cj ‹_›;apply iL bg;rotate_left
     obtain rfl:=bP ‹_›;obtain rfl:=cA ‹_›;refine Ow (by omega) ?_;rotate_left
     obtain rfl:=bQ ‹_›;rotate_left
     obtain rfl:=m ‹_›;apply bG;rotate_left
     obtain rfl:=m ‹_›;apply bG;rotate_left
     obtain rfl:=m ‹_›;apply bG;rotate_left
     obtain rfl:=m ‹_›;apply bG;rotate_left
     obtain rfl:=dv ‹_›;obtain rfl:=bU ‹_›;obtain rfl:=m ‹_›;apply bG;refine bA (by omega) ?_;rotate_left
     obtain rfl:=cM ‹_›;obtain rfl:=de ‹_›;obtain rfl:=cC ‹_›;obtain rfl:=m ‹_›;apply bG;refine IG bg (by omega) (by omega) ?_;rotate_left
     obtain rfl:=m ‹_›;apply bG;rotate_left
     obtain rfl:=m ‹_›;apply bG;rotate_left
     obtain rfl:=dK ‹_›;obtain rfl:=dd ‹_›;obtain rfl:=m ‹_›;apply bG;refine az cZ hj ?_;rotate_left
     obtain rfl:=ek ‹_›;obtain rfl:=m ‹_›;apply bG;refine cS aP ((f.cellS hS).trans N) ?_;rotate_left
     obtain rfl:=cY ‹_›;obtain rfl:=eH ‹_›;obtain rfl:=m ‹_›;apply bG;refine bB ?_;rw [hq];rotate_left
     obtain rfl:=m ‹_›;obtain rfl:=fl ‹_›;apply A6;rotate_left
     obtain rfl:=gZ ‹_›;rotate_left
     obtain rfl:=r ‹_›;refine dk (c:=false) (b:=true) (by decide) ?_;rotate_left
     obtain rfl:=r ‹_›;refine dk (c:=false) (b:=true) (by decide) ?_;rotate_left
     obtain rfl:=jU ‹_›;obtain rfl:=r ‹_›;refine dk (c:=false) (b:=true) (by decide) ?_;rotate_left
     obtain rfl:=iI ‹_›;obtain rfl:=pw ‹_›;obtain rfl:=r ‹_›;refine dk (c:=false) (b:=true) (by decide) ?_;rotate_left
     obtain rfl:=r ‹_›;obtain rfl:=sP ‹_›;apply tq;rotate_left
     all_goals try exact ⟨a.set _ (by first|rfl|assumption|trivial),f⟩
     obtain ⟨rfl,rfl,rfl,rfl,rfl,rfl,rfl,rfl,rfl,rfl,rfl,rfl,rfl,rfl,rfl,rfl,rfl,rfl,rfl,rfl,rfl,rfl,rfl,rfl,rfl,_⟩:=a.all;clear a co cn bP cj cA bQ m cM de dv bU cC cY dK dd ek eH fl gZ r iI jU pw sP P7;refine aE (fun B=>by cases B) (fun _=>?_);refine ⟨l,rfl,a1,?_,f⟩;rw [af] at g
     ·exact g
     ·rintro ⟨_,h2,_⟩;rw [nt] at hq;exact hq (by rw [h2])
    ·rw [bt] at hq;have a5:=hq;have hq:decide (st (cut s i (i+x.size))=x)=true:=aL a5
     skip
     refine ⟨fun D MQ Me O U V Y Z vC uk uB sT uv qW nh s6 tV rf qp lL oF nz pD mn nj lS w_=>Fx D 0 [lS=ax (i:Int),nj=ax (x.size:Int),mn=ax ((i+x.size:Nat):Int),pD=.string (st s),nz=ax (s.length:Int),oF=.bool true,lL=.bool true,qp=.string (st s),rf=ax (i:Int),tV=ax (i:Int),s6=ax (x.size:Int),nh=ax ((i+x.size:Nat):Int),qW=.string (st (cut s i (i+x.size))),uv=eF b o signs.length cap,sT=ax (j:Int),uB=eu b (o+j * 1),uk=.string x,vC=.bool true,Z=.bool true,Y=.bool true,V=ax (x.size:Int),U=.string (st l),O=ax (l.length:Int),Me=.bool (decide ((l.length:Int)<(x.size:Int))),MQ=.bool (decide ((l.length:Int)<(x.size:Int)))]/\Inv w [] [] S1 w_,⟨Fx.nil _ _,f.draw⟩,⟨?_,?_,?_,?_,?_,?_,?_,?_,?_,?_,?_,?_,?_,?_,?_,?_,?_,?_,?_,?_,?_,?_,?_,?_,?_,trivial⟩,?_⟩;all_goals (intro D bw;intros;rename_i MQ Me O U V Y Z vC uk uB sT uv qW nh s6 tV rf qp lL oF nz pD mn nj lS w_ G;have a:=G.1;obtain ⟨⟨co,cn,bP,cj,cA,bQ,m,cM,de,dv,bU,cC,cY,dK,dd,ek,eH,fl,gZ,r,iI,jU,pw,sP,P7,_⟩,f⟩:=G)
     rotate_left;rotate_left;obtain rfl:=co ‹_›;obtain rfl:=cn ‹_›;refine bA (by omega) ?_;rotate_left;rotate_left
     obtain rfl:=cj ‹_›;apply iL bg;rotate_left
     obtain rfl:=bP ‹_›;obtain rfl:=cA ‹_›;refine Ow (by omega) ?_;rotate_left
     obtain rfl:=bQ ‹_›;rotate_left
     obtain rfl:=m ‹_›;apply bG;rotate_left
     obtain rfl:=m ‹_›;apply bG;rotate_left
     obtain rfl:=m ‹_›;apply bG;rotate_left
     obtain rfl:=m ‹_›;apply bG;rotate_left
     obtain rfl:=dv ‹_›;obtain rfl:=bU ‹_›;obtain rfl:=m ‹_›;apply bG;refine bA (by omega) ?_;rotate_left
     obtain rfl:=cM ‹_›;obtain rfl:=de ‹_›;obtain rfl:=cC ‹_›;obtain rfl:=m ‹_›;apply bG;refine IG bg (by omega) (by omega) ?_;rotate_left
     obtain rfl:=m ‹_›;apply bG;rotate_left
     obtain rfl:=m ‹_›;apply bG;rotate_left
     obtain rfl:=dK ‹_›;obtain rfl:=dd ‹_›;obtain rfl:=m ‹_›;apply bG;refine az cZ hj ?_;rotate_left
     obtain rfl:=ek ‹_›;obtain rfl:=m ‹_›;apply bG;refine cS aP ((f.cellS hS).trans N) ?_;rotate_left
     obtain rfl:=cY ‹_›;obtain rfl:=eH ‹_›;obtain rfl:=m ‹_›;apply bG;refine bB ?_;rw [hq];rotate_left
     obtain rfl:=m ‹_›;obtain rfl:=fl ‹_›;apply A6;rotate_left
     obtain rfl:=gZ ‹_›;rotate_left
     obtain rfl:=r ‹_›;apply bG;rotate_left
     obtain rfl:=r ‹_›;apply bG;rotate_left
     obtain rfl:=jU ‹_›;obtain rfl:=r ‹_›;apply bG;refine iL bg ?_;rotate_left
     obtain rfl:=iI ‹_›;obtain rfl:=pw ‹_›;obtain rfl:=r ‹_›;apply bG;refine ew ?_;rotate_left
     obtain rfl:=r ‹_›;obtain rfl:=sP ‹_›;apply A6;rotate_left
     all_goals try exact ⟨a.set _ (by first|rfl|assumption|trivial),f⟩
     obtain ⟨rfl,rfl,rfl,rfl,rfl,rfl,rfl,rfl,rfl,rfl,rfl,rfl,rfl,rfl,rfl,rfl,rfl,rfl,rfl,rfl,rfl,rfl,rfl,rfl,rfl,_⟩:=a.all;clear a co cn bP cj cA bQ m cM de dv bU cC cY dK dd ek eH fl gZ r iI jU pw sP P7;have a0:cut s i (i+x.size)=bs x:=by rw [<- MY (cut s i (i+x.size)),a5]
     refine aJ (fun B=>?_) (fun B=>?_)
     ·refine az cZ hj (cS aP ((f.cellS hS).trans N) ?_);refine ⟨bs x,rfl,by rw [<- a0,OT M];omega,?_,f⟩;rw [ai ⟨aL M,a0,by omega⟩] at g;exact g
     ·refine ⟨l,rfl,a1,?_,f⟩;rw [af] at g
      ·exact g
      ·rintro ⟨_,_,h3⟩;omega
   ·skip
    refine ⟨fun D MQ Me O U V Y Z vC uk uB sT uv qW nh s6 tV rf qp lL oF nz pD mn nj lS w_=>Fx D 0 [lS=ax (i:Int),nj=ax (x.size:Int),mn=ax ((i+x.size:Nat):Int),pD=.string (st s),nz=ax (s.length:Int),oF=.bool false,lL=.bool false,qp=undef,rf=undef,tV=undef,s6=undef,nh=undef,qW=undef,uv=undef,sT=undef,uB=undef,uk=undef,vC=undef,Z=.bool false,Y=.bool false,V=undef,U=undef,O=undef,Me=undef,MQ=.bool false]/\Inv w [] [] S1 w_,⟨Fx.nil _ _,f.draw⟩,⟨?_,?_,?_,?_,?_,?_,?_,?_,?_,?_,?_,?_,?_,?_,?_,?_,?_,?_,?_,?_,?_,?_,?_,?_,?_,trivial⟩,?_⟩;all_goals (intro D bw;intros;rename_i MQ Me O U V Y Z vC uk uB sT uv qW nh s6 tV rf qp lL oF nz pD mn nj lS w_ G;have a:=G.1;obtain ⟨⟨co,cn,bP,cj,cA,bQ,m,cM,de,dv,bU,cC,cY,dK,dd,ek,eH,fl,gZ,r,iI,jU,pw,sP,P7,_⟩,f⟩:=G)
    rotate_left;rotate_left;obtain rfl:=co ‹_›;obtain rfl:=cn ‹_›;refine bA (by omega) ?_;rotate_left;rotate_left
    obtain rfl:=cj ‹_›;apply iL bg;rotate_left
    obtain rfl:=bP ‹_›;obtain rfl:=cA ‹_›;refine aaf (by omega) ?_;rotate_left
    obtain rfl:=bQ ‹_›;rotate_left
    obtain rfl:=m ‹_›;refine dk (c:=false) (b:=true) (by decide) ?_;rotate_left
    obtain rfl:=m ‹_›;refine dk (c:=false) (b:=true) (by decide) ?_;rotate_left
    obtain rfl:=m ‹_›;refine dk (c:=false) (b:=true) (by decide) ?_;rotate_left
    obtain rfl:=m ‹_›;refine dk (c:=false) (b:=true) (by decide) ?_;rotate_left
    obtain rfl:=dv ‹_›;obtain rfl:=bU ‹_›;obtain rfl:=m ‹_›;refine dk (c:=false) (b:=true) (by decide) ?_;rotate_left
    obtain rfl:=cM ‹_›;obtain rfl:=de ‹_›;obtain rfl:=cC ‹_›;obtain rfl:=m ‹_›;refine dk (c:=false) (b:=true) (by decide) ?_;rotate_left
    obtain rfl:=m ‹_›;refine dk (c:=false) (b:=true) (by decide) ?_;rotate_left
    obtain rfl:=m ‹_›;refine dk (c:=false) (b:=true) (by decide) ?_;rotate_left
    obtain rfl:=dK ‹_›;obtain rfl:=dd ‹_›;obtain rfl:=m ‹_›;refine dk (c:=false) (b:=true) (by decide) ?_;rotate_left
    obtain rfl:=ek ‹_›;obtain rfl:=m ‹_›;refine dk (c:=false) (b:=true) (by decide) ?_;rotate_left
    obtain rfl:=cY ‹_›;obtain rfl:=eH ‹_›;obtain rfl:=m ‹_›;refine dk (c:=false) (b:=true) (by decide) ?_;rotate_left
    obtain rfl:=m ‹_›;obtain rfl:=fl ‹_›;apply tq;rotate_left
    obtain rfl:=gZ ‹_›;rotate_left
    obtain rfl:=r ‹_›;refine dk (c:=false) (b:=true) (by decide) ?_;rotate_left
    obtain rfl:=r ‹_›;refine dk (c:=false) (b:=true) (by decide) ?_;rotate_left
    obtain rfl:=jU ‹_›;obtain rfl:=r ‹_›;refine dk (c:=false) (b:=true) (by decide) ?_;rotate_left
    obtain rfl:=iI ‹_›;obtain rfl:=pw ‹_›;obtain rfl:=r ‹_›;refine dk (c:=false) (b:=true) (by decide) ?_;rotate_left
    obtain rfl:=r ‹_›;obtain rfl:=sP ‹_›;apply tq;rotate_left
    all_goals try exact ⟨a.set _ (by first|rfl|assumption|trivial),f⟩
    obtain ⟨rfl,rfl,rfl,rfl,rfl,rfl,rfl,rfl,rfl,rfl,rfl,rfl,rfl,rfl,rfl,rfl,rfl,rfl,rfl,rfl,rfl,rfl,rfl,rfl,rfl,_⟩:=a.all;clear a co cn bP cj cA bQ m cM de dv bU cC cY dK dd ek eH fl gZ r iI jU pw sP P7;refine aE (fun B=>by cases B) (fun _=>?_);refine ⟨l,rfl,a1,?_,f⟩;rw [af] at g
    ·exact g
    ·rintro ⟨h1,_⟩;rw [bt] at h1;exact M h1
  intro t7;(iterate 35 intro);intro w';rintro ⟨q,rfl,a4,a6,f⟩;refine bA (by omega) ?_;exact ⟨⟨j+1,q,hj,rfl,rfl,a4,a6,f⟩,by simp [intOf];omega⟩
 ·have:j=signs.length:=by omega
  subst this;rw [dY,lM] at g;rw [<- g] at J;refine bB (aJ (fun B=>?_) (fun B=>?_))
  ·have:l=[]:=by rw [<- MY l,B]
   exact iN f a3 (by rw [J,ai this];rfl)
  ·have:¬ l=[]:=fun h=>B (by rw [h]);refine iL bg (bA (by omega) ?_);exact iN f a3 (by rw [J,af this];rfl)
end
theorem Dq (s:Bs) (i:Nat):∀ (l:List ByteArray) (b:Bs),(∀ x∈l,x.size<=3)->b.length<=3->i+b.length<=s.length->i+(lM s i l b).length<=s.length/\(lM s i l b).length<=3
 | [],b,_,h2,h3=>⟨h3,h2⟩
 | x::l,b,h1,h2,h3=>by
  rw [lM];have f:(bs x).length=x.size:=SZ;split
  ·rename_i h
   exact Dq s i l _ (fun y a=>h1 y (bk _ a)) (by rw [f];exact h1 x (bi ..)) (by rw [f];exact of_decide_eq_true h.1)
  ·exact Dq s i l _ (fun y a=>h1 y (bk _ a)) h2 h3
theorem Wd (s:Bs):∀ (n e:Nat),e<=Gn s n e/\Gn s n e<=e+n
 | 0,e=>by simp [Gn]
 | n+1,e=>by
  rw [Gn];split
  ·have:=Wd s n (e+1);omega
  ·omega
theorem Bj {s:Bs} {i:Nat} {n:Bs} {e:Nat} (g:i<s.length) (h:Ci s i=some (n,e)):i<e/\e<=s.length/\n.length<=6/\n≠[]:=by
 have hl:=Wd s (s.length - i) i;have q:=Dq s i signs [] QY (by simp) (by simpa using Nat.le_of_lt g);unfold Ci at h;simp only [] at h;split at h
 ·cases h
 ·split at h
  ·simp only [aY,cV] at h;obtain ⟨rfl,rfl⟩:=h;rename_i o j
   have hc:=OT (s:=s) (a:=i) (b:=Gn s (s.length - i) i) (by omega);refine ⟨j,by omega,by omega,fun h=>?_⟩;rw [h] at hc;simp at hc;omega
  ·split at h
   ·cases h
   ·simp only [aY,cV] at h;obtain ⟨rfl,rfl⟩:=h;rename_i f
    have:0<(lM s i signs []).length:=by
     cases m:lM s i signs [] with
     | nil=>exact absurd m f
     | cons a l=>simp
    exact ⟨by omega,by omega,by omega,f⟩
def opV (o:Option (Bs × Nat)) (i:Nat):Value:=match o with
 | none=>.tuple #[.string ⟨#[]⟩,.int .i64 (i:Int)]
 | some (n,e)=>.tuple #[.string (st n),.int .i64 (e:Int)]
theorem Yx {s:Bs} {i:Nat} {n:Bs} {e:Nat} (h:opF s i=some (n,e)):i<e/\e<=s.length/\n.length<=6/\n≠[]:=by
 unfold opF at h;obtain ⟨fr,a⟩:∃ fr,fr=if sgn s i 32=true then i+1 else i:=⟨_,rfl⟩
 simp only [<- a] at h;have q:i<=fr:=by rw [a];split <;> omega
 split at h
 ·cases h
 rename_i g
 split at h
 ·cases h
 rename_i r t f
 obtain ⟨B,l,m,o⟩:=Bj (by omega) f;split at h
 ·cases h
 rename_i hc
 simp only [not_or,not_and,Bool.not_eq_false] at hc;simp only [aY,cV] at h;obtain ⟨rfl,rfl⟩:=h;refine ⟨by split <;> omega,?_,m,o⟩;split
 ·rename_i j
  have:=lI (hc.2.2 j);omega
 ·exact l
section
theorem Tw {s:Bs} {i:Nat} (O:s.length<=100000) (Y:i<=s.length) (S:ae):ll ZN [.string (st s),ax (i:Int)] S (opV (opF s i) i):=by
 intro w a;apply Mr.2;dsimp only[Mr,bl];obtain ⟨fr,m⟩:∃ fr,fr=if sgn s i 32=true then i+1 else i:=⟨_,rfl⟩
 have V:i<=fr/\fr<=i+1:=by rw [m];split <;> omega
 obtain ⟨r,g⟩:∃ r,r=opF s i:=⟨_,rfl⟩
 rw [<- g];unfold opF at g;simp only [<- m] at g;refine ⟨fun t w'=>t=ax (fr:Int)/\Inv w [] [] S w',?_,?_⟩
 ·refine Run.callPure dT dV a (dG s i 32 S) fun w' a=>?_;refine aE (fun o=>?_) (fun o=>?_)
  ·refine bA (by omega) ?_;rw [ai o] at m;exact ⟨by rw [m];congr 1,a⟩
  ·rw [af (by rw [o];decide)] at m;exact ⟨by rw [m],a⟩
 intro Z _ _ _ _ _ w';rintro ⟨rfl,a⟩;refine iL bg (iS (aJ (fun o=>?_) (fun o=>?_)))
 ·rw [ai (by omega)] at g;exact done a (by rw [g];rfl)
 rw [af (by omega)] at g;refine Run.callPure EC Fq a (BD (by omega) O S) fun w' a=>?_;cases B:Ci s fr with
 | none=>
  rw [B] at g;simp only [] at g;simp only [WI];refine al rfl (al rfl ?_);refine ⟨fun t w'=>t=.bool true/\Inv w [] [] S w',?_,?_⟩
  ·refine JZ (by omega) ?_;refine rpG ?_;exact ⟨rfl,a⟩
  intro J _ _ _ _ _ _ w';rintro ⟨rfl,a⟩;exact aE (fun _=>done a (by rw [g];rfl)) (fun o=>by cases o)
 | some q=>
  obtain ⟨G,D⟩:=q;rw [B] at g;simp only [] at g;obtain ⟨h1,h2,h3,h4⟩:=Bj (by omega) B;simp only [WI];refine al (v:=.string (st G)) rfl (al (v:=ax (D:Int)) rfl ?_);refine ⟨fun t w'=>t=.bool (decide (di (st G)=0))/\Inv w [] [] S w',?_,?_⟩
  ·refine gN (by omega) ?_;refine rpG ?_;refine Run.callPure gD gI a (eZ _ S) fun w' a=>?_;apply bn;refine rpG ?_;exact ⟨rfl,a⟩
  intro J _ _ _ _ _ _ w';rintro ⟨rfl,a⟩;refine aJ (fun o=>?_) (fun o=>?_)
  ·rw [ai (.inl o)] at g;exact done a (by rw [g];rfl)
  obtain ⟨f,l⟩:∃ f,f=(decide (G=[105,115]) || decide (G=[109,111,100])):=⟨_,rfl⟩
  rw [<- l] at g;refine ⟨fun t w'=>t=.bool f/\Inv w [] [] S w',?_,?_⟩
  ·refine JX (b:=[105,115]) ?_;cases N:decide (G=[105,115])
   ·refine rpG ?_;refine JX (b:=[109,111,100]) ?_;refine rpG ?_;exact ⟨by rw [l,N,ib],a⟩
   ·refine rpG ?_;exact ⟨by rw [l,N,py],a⟩
  intro t9 _ _ _ _ _ _ w';rintro ⟨rfl,a⟩;refine ⟨fun t w'=>t=.bool (decide (f≠decide (i<fr)) || (f && !sgn s D 32))/\Inv w [] [] S w',?_,?_⟩
  ·refine ew (Vj B0 ?_);have e1:decide ((i:Int)<(fr:Int))=decide (i<fr):=by rw [dJ];omega
   rw [e1];cases h6:decide (i<fr) <;> cases f
   ·refine rpG ?_;exact ⟨by rfl,a⟩
   ·refine rpG ?_;exact ⟨by rfl,a⟩
   ·refine rpG ?_;exact ⟨by rfl,a⟩
   ·refine rpG ?_;refine Run.callPure dT dV a (dG s D 32 S) fun w' a=>?_;apply cq;refine rpG ?_;exact ⟨by simp,a⟩
  intro U _ _ _ _ _ _ _ _ _ _ _ _ _ w';rintro ⟨rfl,a⟩;refine aE (fun j=>?_) (fun j=>?_)
  ·rw [ai] at g
   ·exact done a (by rw [g];rfl)
   ·rw [jI,bt,aZ,lg] at j;exact .inr j
  ·rw [af] at g
   ·refine ⟨fun t w'=>t=ax ((if f=true then D+1 else D:Nat):Int)/\Inv w [] [] S w',?_,?_⟩
    ·refine aE (fun M=>?_) (fun M=>?_)
     ·refine bA (by omega) ?_;exact ⟨by rw [ai M];congr 1,a⟩
     ·exact ⟨by rw [af (by rw [M];decide)],a⟩
    intro t8 _ _ _ w';rintro ⟨rfl,a⟩;exact done a (by rw [g];rfl)
   ·rw [Hy,nt] at j;rintro (h|h|⟨h,h'⟩)
    ·exact o h
    ·exact j.1 h
    ·rw [h,h'] at j;simp at j
end
end Go.Proofs.YtellfcpffcipcaaGreatDoor
