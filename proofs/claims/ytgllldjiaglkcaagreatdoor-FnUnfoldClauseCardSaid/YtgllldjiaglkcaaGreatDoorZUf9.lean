/- Bytes, numbers, names and operators in texts: spec.l1Sign and its kin. (printed by gen_byt.py) -/
import Derived.Test.YtgllldjiaglkcaaGreatDoorZUf8
namespace Go.Proofs.YtgllldjiaglkcaaGreatDoor
open Go Go.RowKit
theorem ml {s:Bs} {i:Nat} (h:i<s.length) (c:Nat):sgn s i c=decide (s[i].toNat=c):=by simp [sgn,List.getElem?_eq_getElem h]
theorem US {s:Bs} {i:Nat} (h:¬ i<s.length) (c:Nat):sgn s i c=false:=by simp [sgn,List.getElem?_eq_none (Nat.le_of_not_lt h)]
theorem qG {s:Bs} {i:Nat} (h:i<s.length) (a b:Nat):btw s i a b=(decide (a<=s[i].toNat) && decide (s[i].toNat<=b)):=by simp [btw,List.getElem?_eq_getElem h]
theorem PU {s:Bs} {i:Nat} (h:¬ i<s.length) (a b:Nat):btw s i a b=false:=by simp [btw,List.getElem?_eq_none (Nat.le_of_not_lt h)]
theorem Ez {s:Bs} {i a b:Nat} (h:btw s i a b=true):i<s.length:=by
 rcases Lc i s.length with f|f
 ·exact f
 ·rw [PU (by omega)] at h; cases h
theorem jE {s:Bs} {i c:Nat} (h:sgn s i c=true):i<s.length:=by
 rcases Lc i s.length with a|a
 ·exact a
 ·rw [US (by omega)] at h; cases h
section
attribute [local irreducible] Run CondV aq aK
theorem df (s:Bs) (i c:Nat) (S:ae):Pure Tryz.prog Qk [.string (st s),.int .i64 (i:Int),.int .u8 (c:Int)] S (.bool (sgn s i c)):=by
 intro w a;refine Cm.2 ?_;dsimp only[Cm,fQ];refine qk (by omega) ?_;refine rpG ?_;refine ge aZ ?_;by_cases h:i<s.length
 ·refine Gg (by omega) ?_;refine rpG ?_;refine eW aZ h ?_;refine bw ?_;refine rpG ?_;refine done a ?_;rw [ml h]
  congr 1
  rw [gB];omega
 ·refine fw (by omega) ?_;refine rpG ?_;exact done a (by rw [US h])
theorem iU (s:Bs) (i:Nat) (S:ae):Pure Tryz.prog NP [.string (st s),.int .i64 (i:Int)] S (.bool (dig s i)):=by
 intro w a;refine zC.2 ?_;dsimp only[zC,bm];refine qk (by omega) ?_;refine rpG ?_;refine ge aZ ?_;by_cases h:i<s.length
 ·refine Gg (by omega) ?_;refine rpG ?_;refine eW aZ h ?_;rw [dig,qG h];by_cases f:48<=s[i].toNat
  ·refine qk (by omega) ?_;refine rpG ?_;refine eW aZ h ?_;refine fU ?_;refine rpG ?_;refine done a ?_;rw [aN f,eH]
   congr 1
   rw [gB];omega
  ·refine Ap (by omega) ?_;refine rpG ?_;exact done a (by rw [ba f,iP])
 ·refine fw (by omega) ?_;refine rpG ?_;exact done a (by rw [dig,PU h])
theorem r6 (s:Bs) (i:Nat) (S:ae):Pure Tryz.prog N0 [.string (st s),.int .i64 (i:Int)] S (.bool (sml s i)):=by
 intro w a;refine zd.2 ?_;dsimp only[zd,bm];refine qk (by omega) ?_;refine rpG ?_;refine ge aZ ?_;by_cases h:i<s.length
 ·refine Gg (by omega) ?_;refine rpG ?_;refine eW aZ h ?_;rw [sml,qG h];by_cases f:97<=s[i].toNat
  ·refine qk (by omega) ?_;refine rpG ?_;refine eW aZ h ?_;refine fU ?_;refine rpG ?_;refine done a ?_;rw [aN f,eH]
   congr 1
   rw [gB];omega
  ·refine Ap (by omega) ?_;refine rpG ?_;exact done a (by rw [ba f,iP])
 ·refine fw (by omega) ?_;refine rpG ?_;exact done a (by rw [sml,PU h])
end
theorem Q3 {s:Bs} {i:Nat} (h:i<s.length):dig s i=true↔48<=s[i].toNat/\s[i].toNat<=57:=by
 rw [dig,qG h,bM,bD,bD]
theorem Tz {d:Bs} {j:Nat} (h:j<d.length) (m:Nat):HE (d.drop j) m=HE (d.drop (j+1)) (m * 10+(d[j].toNat - 48)):=by
 rw [dY h,HE]
section
attribute [local irreducible] Run CondV aq aK
theorem K6 (d:Bs) (hd:∀ i,i<d.length->dig d i=true) (o:0<d.length) (O:d.length<=4) (r:¬ (sgn d 0 48=true/\1<d.length)) (S:ae) :
  Pure Tryz.prog Qy [.string (st d)] S (.tuple #[.int .i64 ((HE d 0:Nat):Int),.bool true]):=by
 intro w a;refine De.2 ?_;dsimp only[De,aO];have J:=(Q3 o).1 (hd 0 o);refine ⟨fun t w'=>t=.bool false/\Inv w [] [] S w',?_,?_⟩
 ·refine ge aZ ?_;refine Qw (by omega) ?_;refine rpG ?_;refine eW (i:=0) aZ o ?_;refine fc (by omega) ?_;refine rpG ?_;exact ⟨rfl,a⟩
 intro U _ _ _ _ _ _ _ _ w';rintro ⟨rfl,a⟩;refine ⟨fun t w'=>t=.string (st d)/\Inv w [] [] S w',?_,?_⟩
 ·exact aD (fun l=>by cases l) (fun _=>⟨rfl,a⟩)
 intro V _ _ _ w';rintro ⟨rfl,a⟩;refine ⟨fun t w'=>t=.bool false/\Inv w [] [] S w',?_,?_⟩
 ·refine ge aZ ?_;refine fc (by omega) ?_;refine rpG ?_;refine ge aZ ?_;refine mz (by omega) ?_;refine rpG ?_;refine eW (i:=0) aZ o ?_;by_cases N:d[0].toNat=48
  ·refine gf (by omega) ?_;refine rpG ?_;refine ge aZ ?_;refine mz (by
    have:¬ 1<d.length:=fun h=>r ⟨by rw [ml o,N]; rfl,h⟩;omega) ?_
   refine rpG ?_;exact ⟨rfl,a⟩
  ·refine fc (by omega) ?_;refine rpG ?_;exact ⟨rfl,a⟩
 intro B _ _ _ _ _ _ _ _ _ _ _ _ _ _ _ _ _ _ _ _ w';rintro ⟨rfl,a⟩;refine aD (fun l=>by cases l) (fun _=>?_);refine ⟨fun i n w'=>∃ j m:Nat,j<=d.length/\i=.int .i64 j/\n=.int .i64 m/\m<10 ^ j/\HE (d.drop j) m=HE d 0/\Inv w [] [] S w',fun i _ _=>d.length - (intOf i).toNat,
  ⟨0,0,bk _,rfl,rfl,by simp,rfl,a⟩,?_⟩
 intro Y _ _ D _ _ _ _ _ _ _ _ _ _ _ _ _ _ _ _ _ _ _ _ _ _ _ _ w';rintro ⟨j,m,Z,rfl,rfl,hm,g,a⟩;have hp:10 ^ j<=10 ^ 4:=PM (by omega) (by omega);refine ge aZ ?_;refine bS ?_;refine aL (fun q=>?_) (fun q=>?_)
 ·have f:j<d.length:=by omega
  have M:=(Q3 f).1 (hd j f);refine ⟨fun t w'=>t=.bool false/\Inv w [] [] S w',?_,?_⟩
  ·refine eW aZ f ?_;refine fw (by omega) ?_;refine rpG ?_;refine eW aZ f ?_;refine mz (by omega) ?_;refine rpG ?_;exact ⟨rfl,a⟩
  intro G _ _ _ _ _ _ _ _ _ w';rintro ⟨rfl,a⟩;refine aD (fun l=>by cases l) (fun _=>?_);refine FD (by omega) ?_;refine eW aZ f ?_;refine VD (c:=((d[j].toNat - 48:Nat):Int)) ?_ ?_
  ·rw [IntWalk.u8_in _ (by omega)]; omega
  refine sZ gV iK (IntWalk.i64_in _ (by omega)) ?_;refine bC (by omega) ?_;refine bC (by omega) ?_;refine ⟨⟨j+1,m * 10+(d[j].toNat - 48),f,rfl,?_,?_,?_,a⟩,by simp [intOf]; omega⟩
  ·congr 1
  ·rw [Nat.pow_succ]; omega
  ·rw [<- g,Tz f]
 ·have:j=d.length:=by omega
  subst this;rw [eC,HE] at g;refine ⟨fun t w'=>t=.int .i64 m/\Inv w [] [] S w',aD (fun l=>by cases l) (fun _=>⟨rfl,a⟩),?_⟩;intro D _ _ _ w';rintro ⟨rfl,a⟩;exact done a (by rw [g])
abbrev IG (k n:Int):Value:=.agg #[.int .i64 k,.int .i64 n,.string ⟨#[]⟩,.slice none 0 0]
theorem nC {w:World} {K:Value->World->Prop} {k n:Int} (hk:K (IG k n) w):Run Tryz.prog (cR ab [(0,.int .i64 k),(1,.int .i64 n)]) w K:=by
 refine Run.of (v:=IG k n) (w':=w) ?_ hk;unfold cR;rw [Sem.run_bind,run_build w ab _ #[.int .i64 k,.int .i64 n,.string ⟨#[]⟩,.slice none 0 0] (by kernel_rfl),Result.andThen_ok];rfl
theorem vH (n:Int) (S:ae):Pure Tryz.prog Tq [.int .i64 n] S (IG 1 n):=by
 intro w a;refine EM.2 ?_;dsimp only[EM,aO];refine aQ a bj fun b w' a=>?_;refine nC ?_;refine au a 0 rfl ad rfl rfl (by simp [Value.oneCell']) fun w' a=>?_;refine bB a 0 ad rfl rfl ?_;exact done a rfl
theorem oC (n:Int) (S:ae):Pure Tryz.prog Ty [.int .i64 n] S (IG 2 n):=by
 intro w a;refine EV.2 ?_;dsimp only[EV,aO];refine aQ a bj fun b w' a=>?_;refine nC ?_;refine au a 0 rfl ad rfl rfl (by simp [Value.oneCell']) fun w' a=>?_;refine bB a 0 ad rfl rfl ?_;exact done a rfl
end
theorem NK (s:Bs) (n e:Nat):vq s (n+1) e=if dig s e=true then vq s n (e+1) else e:=rfl
theorem LR (s:Bs):∀ (n e:Nat),e<=vq s n e/\vq s n e<=e+n
 | 0,e=>by simp [vq]
 | n+1,e=>by
  rw [vq];split
  ·have:=LR s n (e+1); omega
  ·omega
theorem zX (s:Bs):∀ (n e i:Nat),e<=i->i<vq s n e->dig s i=true
 | 0,e,i,h1,h2=>by simp [vq] at h2; omega
 | n+1,e,i,h1,h2=>by
  rw [vq] at h2;split at h2
  ·rename_i h
   by_cases a:e=i
   ·subst a; exact h
   ·exact zX s n (e+1) i (by omega) h2
  ·omega
theorem LB {s:Bs} {a b i:Nat} (f:i<(cut s a b).length):∃ h:a+i<s.length,(cut s a b)[i]=s[a+i]/\a+i<b:=by
 have g:(cut s a b).length=min b s.length - a:=by simp [cut]
 refine ⟨by omega,?_,by omega⟩;simp [cut]
theorem Lv {s:Bs} {a b:Nat} (f:b<=s.length):(cut s a b).length=b - a:=by simp [cut]; omega
theorem Xf {s:Bs} {a b i:Nat} (f:i<(cut s a b).length):dig (cut s a b) i=dig s (a+i):=by
 obtain ⟨h,e,_⟩:=LB f;rw [dig,dig,qG f,qG h,e]
section
attribute [local irreducible] Run CondV aq aK
theorem GK {s:Bs} {i e:Nat} {t:T} (hn:Uq s i=some (t,e)) (hi:i<=100000) (S:ae) :
  ∃ n:Int,inI n/\t=.mk 2 n emptyB []/\i<=e/\e<=i+5/\Pure Tryz.prog KJ [.string (st s),.int .i64 (i:Int)] S (.tuple #[IG 2 n,.int .i64 (e:Int)]):=by
 unfold Uq at hn;obtain ⟨fr,g⟩:∃ fr,fr=if sgn s i 45=true then i+1 else i:=⟨_,rfl⟩
 simp only [<- g] at hn;obtain ⟨o,q⟩:∃ o,o=vq s 4 fr:=⟨_,rfl⟩
 simp only [<- q] at hn;have Y:=LR s 4 fr;rw [<- q] at Y;have a5:i<=fr/\fr<=i+1:=by rw [g]; split <;> omega
 split at hn
 ·cases hn
 rename_i hc
 simp only [not_or] at hc;obtain ⟨O,U,J,V⟩:=hc;simp only [aY,cE] at hn;obtain ⟨rfl,rfl⟩:=hn;have M:∀ j,j<(cut s fr o).length->dig (cut s fr o) j=true:=fun j hj=>by
  obtain ⟨h1,h2,h3⟩:=LB hj;rw [Xf hj];exact zX s 4 fr _ (by omega) (by rw [<- q]; exact h3)
 have r:0<(cut s fr o).length:=by
  cases he:cut s fr o with
  | nil=>exact absurd he O
  | cons a l=>simp
 have a0:fr<o:=by
  obtain ⟨_,_,h3⟩:=LB r;omega
 have B:o<=s.length:=by
  have:=zX s 4 fr (o - 1) (by omega) (by rw [<- q]; omega);have:=Ez this;omega
 refine ⟨_,?_,rfl,by omega,by omega,?_⟩
 ·unfold inI; split <;> omega
 intro w f;refine wk.2 ?_;dsimp only[wk,bm];refine aQ f bj fun G w' f=>?_;refine ⟨fun t w'=>t=.int .i64 (fr:Int)/\Inv w [] [.blk G (.cells #[.int .i64 0,.int .i64 0,.string ⟨#[]⟩,.slice none 0 0] ab)] S w',?_,?_⟩
 ·refine Run.callPure dw dv f (df s i 45 S) fun w' f=>?_;refine aD (fun m=>?_) (fun m=>?_)
  ·refine bC (by omega) ?_;rw [ai m] at g;exact ⟨by rw [g]; congr 1,f⟩
  ·rw [ag (by rw [m]; decide)] at g;exact ⟨by rw [g],f⟩
 intro t6 _ _ _ _ _ w';rintro ⟨rfl,f⟩;refine ⟨fun t w'=>∃ j:Nat,t=.int .i64 (j:Int)/\fr<=j/\j<=fr+4/\vq s (fr+4 - j) j=o/\Inv w [] [.blk G (.cells #[.int .i64 0,.int .i64 0,.string ⟨#[]⟩,.slice none 0 0] ab)] S w',fun t _=>fr+4 - (intOf t).toNat,
  ⟨fr,rfl,aS _,by omega,by rw [mO]; exact q.symm,f⟩,?_⟩
 intro t6 _ _ _ _ _ _ _ _ _ _ _ w';rintro ⟨j,rfl,a1,a2,D,f⟩;refine ⟨fun t w'=>t=.bool (dig s j && decide (j<fr+4))/\Inv w [] [.blk G (.cells #[.int .i64 0,.int .i64 0,.string ⟨#[]⟩,.slice none 0 0] ab)] S w',?_,?_⟩
 ·refine Run.callPure l0 lW f (iU s j S) fun w' f=>?_;cases a6:dig s j
  ·refine rpG ?_;exact ⟨rfl,f⟩
  ·refine rpG ?_;refine bC (by omega) ?_;refine bS ?_;refine rpG ?_;refine ⟨?_,f⟩;rw [eH]
   congr 1
   rw [gB];omega
 intro a3 _ _ _ _ _ _ _ _ w';rintro ⟨rfl,f⟩;refine aD (fun m=>?_) (fun m=>?_)
 ·rw [bM,bD] at m;refine bC (by omega) ?_;refine ⟨⟨j+1,rfl,by omega,by omega,?_,f⟩,by simp [intOf]; omega⟩;rw [<- D,show fr+4 - j=(fr+4 - (j+1))+1 by omega,NK,ai m.1]
 ·have Z:j=o:=by
   rw [<- D];by_cases h4:j=fr+4
   ·rw [h4,ey]; rfl
   ·rw [show fr+4 - j=(fr+4 - (j+1))+1 by omega,NK,ag];intro hd;rw [hd,eH,mK] at m;omega
  subst Z;refine F5 aZ (by omega) B ?_;refine Run.callPure Oy Mw f (K6 _ M r (by rw [Lv B]; omega) U S) fun w' f=>?_;obtain ⟨n,hn⟩:∃ n,n=HE (cut s fr j) 0:=⟨_,rfl⟩
  rw [<- hn];refine av (v:=.int .i64 (n:Int)) rfl ?_;refine av (v:=.bool true) rfl ?_;simp only [<- hn] at J V ⊢;refine ⟨fun t w'=>t=.bool false/\Inv w [] [.blk G (.cells #[.int .i64 0,.int .i64 0,.string ⟨#[]⟩,.slice none 0 0] ab)] S w',?_,?_⟩
  ·refine cw ?_;refine rpG ?_;by_cases N:i<fr
   ·refine Qw (by omega) ?_;refine rpG ?_;refine bw ?_;have:¬ n=0:=fun h=>J ⟨N,h⟩;rw [ba (by omega)];refine rpG ?_;refine mz (by omega) ?_;refine rpG ?_;exact ⟨rfl,f⟩
   ·refine mz (by omega) ?_;refine rpG ?_;refine mz (by omega) ?_;refine rpG ?_;exact ⟨rfl,f⟩
  intro a4 _ _ _ _ _ _ _ _ _ _ _ _ _ _ w';rintro ⟨rfl,f⟩;refine aD (fun m=>by cases m) (fun _=>?_);refine ⟨fun t w'=>t=.int .i64 (if i<fr then -(n:Int) else n)/\Inv w [] [.blk G (.cells #[.int .i64 0,.int .i64 0,.string ⟨#[]⟩,.slice none 0 0] ab)] S w',?_,?_⟩
  ·refine eP ?_;refine aL (fun m=>?_) (fun m=>?_)
   ·refine X1 (by omega) ?_;exact ⟨by rw [ai (by omega)],f⟩
   ·exact ⟨by rw [ag (by omega)],f⟩
  intro t8 _ _ _ _ _ w';rintro ⟨rfl,f⟩;refine Run.callPure wG wJ f (oC _ S) fun w' f=>?_;refine au f 0 rfl ad rfl rfl (by simp [Value.oneCell']) fun w' f=>?_;refine bB f 0 ad rfl rfl ?_;exact done f rfl
end
theorem RdSl.some1 {α:Type} {S:ae} {k:Nat} {R:List Value->α->Prop} {v:Value} {xs:List α} (h:RdSl S k R v xs) (a:0<xs.length):∃ b o cap,v=.slice (some ⟨b,o,none⟩) xs.length cap:=by
 obtain ⟨b,o,cap,c,E,f,e,_,_⟩:=h.at_ a;exact ⟨b,o,cap,e⟩
theorem Mn (s:Bs) (n e:Nat):Dz s (n+1) e=if sml s e=true then Dz s n (e+1) else e:=rfl
def Rg (o:Option (Bs × Nat)):Value:=match o with
 | none=>.tuple #[.string ⟨#[]⟩,.int .i64 (-1)]
 | some (n,e)=>.tuple #[.string (st n),.int .i64 (e:Int)]
theorem PE (s:Bs) (i:Nat) {j:Nat} (h:j<signs.length) (b:Bs):jR s i (signs.drop j) b=jR s i (signs.drop (j+1)) (if decide (i+signs[j].size<=s.length)=true/\cut s i (i+signs[j].size)=bs signs[j]/\b.length<signs[j].size then bs signs[j] else b):=by
 rw [dY h,jR]
theorem Nr:∀ x∈signs,x.size<=3:=by decide
section
attribute [local irreducible] Run CondV aq aK
theorem yO {s:Bs} {i:Nat} (hi:i<s.length) (hs:s.length<=100000) (S:ae):Pure Tryz.prog QM [.string (st s),.int .i64 (i:Int)] S (Rg (zI s i)):=by
 intro w f;refine Dc.2 ?_;dsimp only[Dc,bm];obtain ⟨E,hE⟩:∃ E,E=Dz s (s.length - i) i:=⟨_,rfl⟩
 have J:zI s i=if i+6<E then none else if i<E then some (cut s i E,E) else if jR s i signs []=[] then none else some (jR s i signs [],i+(jR s i signs []).length):=by
  rw [zI,<- hE]
 refine ⟨fun t w'=>∃ e:Nat,t=.int .i64 (e:Int)/\i<=e/\e<=s.length/\Dz s (s.length - e) e=E/\Inv w [] [] S w',fun t _=>s.length - (intOf t).toNat,⟨i,rfl,aS _,by omega,hE.symm,f⟩,?_⟩;intro t6 _ _ _ _ _ w';rintro ⟨e,rfl,b1,b2,a2,f⟩;refine Run.callPure yA xY f (r6 s e S) fun w' f=>?_;refine aD (fun B=>?_) (fun B=>?_)
 ·have e1:=Ez B;refine bC (by omega) ?_;refine ⟨⟨e+1,rfl,by omega,by omega,?_,f⟩,by simp [intOf]; omega⟩;rw [<- a2,show s.length - e=(s.length - (e+1))+1 by omega,Mn,ai B]
 have a9:e=E:=by
  rw [<- a2];by_cases h:e=s.length
  ·rw [h,ey,Dz]
  ·rw [show s.length - e=(s.length - (e+1))+1 by omega,Mn,ag (by rw [B]; decide)]
 subst a9;refine bC (by omega) ?_;refine eP ?_;refine aL (fun B=>done f (by rw [J,ai (by omega)]; rfl)) (fun B=>?_);rw [ag (by omega)] at J;refine eP ?_;refine aL (fun B=>?_) (fun B=>?_)
 ·refine F5 aZ (by omega) (by omega) ?_;exact done f (by rw [J,ai (by omega)]; rfl)
 rw [ag (by omega)] at J;refine Run.call0 yB zm f (wq S) fun v I' S1 w'=>?_;rintro ⟨rfl,a3,hr⟩ _ f;obtain ⟨b,o,cap,rfl⟩:=RdSl.some1 hr (by decide);refine ⟨fun t u w'=>∃ (j:Nat) (l:Bs),j<=signs.length/\t=.int .i64 (j:Int)/\u=.string (st l)/\l.length<=3/\jR s i (signs.drop j) l=jR s i signs []/\Inv w [] [] S1 w',fun t _ _=>signs.length - (intOf t).toNat,
  ⟨0,[],bk _,rfl,rfl,by simp,rfl,f.nil⟩,?_⟩
 intro t9 _ _ t7 _ _ _ _ b3 b4 b5 b6 b7 b8 b9 c0 c1 c2 c3 c4 c5 c6 c7 c8 c9 d0 d1 d2 d3 d4 d6 d7 d9 _ _ _ _ _ _ _ _ _ _ w';rintro ⟨j,l,e0,rfl,rfl,a1,g,f⟩;have e2:signs.length=15:=rfl;refine aJ hr cV ?_;refine bS ?_;refine aL (fun a7=>?_) (fun a7=>?_)
 ·have hj:j<signs.length:=by omega
  obtain ⟨x,hx⟩:∃ x,x=signs[j]:=⟨_,rfl⟩
  have e3:x.size<=3:=by rw [hx]; exact Nr _ (bG hj)
  obtain ⟨b',o',b0,c,E',fz,a8,hS,hR⟩:=hr.at_ hj;cases a8;have N:c[o+j * 1]?=some (.string x):=by rw [hx]; exact aF hR 0 _ rfl
  rw [PE s i hj,<- hx] at g;refine ⟨fun u w'=>∃ q,u=.string (st q)/\q.length<=3/\jR s i (signs.drop (j+1)) q=jR s i signs []/\Inv w [] [] S1 w',?_,?_⟩
  ·refine az cV hj ?_;refine cQ be ((f.cellS hS).trans N) ?_;refine jw aZ ?_;by_cases M:i+x.size<=s.length
   ·cases hq:decide (st (cut s i (i+x.size))=x)
    ·skip
     refine ⟨fun D Wj UK IK EQ Gi Eh Fa EG E3 GO JR Jd Gr O Cu Cw U V Y F0 Aa Ea Ah FB Z w_=>Fx D 0 [Z=.int .i64 (i:Int),FB=.int .i64 (x.size:Int),Ah=.int .i64 ((i+x.size:Nat):Int),Ea=.string (st s),Aa=.int .i64 (s.length:Int),F0=.bool true,Y=.bool true,V=.string (st s),U=.int .i64 (i:Int),Cw=.int .i64 (i:Int),Cu=.int .i64 (x.size:Int),O=.int .i64 ((i+x.size:Nat):Int),Gr=.string (st (cut s i (i+x.size))),Jd=.slice (some ⟨b,o,none⟩) signs.length cap,JR=.int .i64 (j:Int),GO=.pointer (some ⟨b,o+j * 1,none⟩),E3=.string x,EG=.bool false,Fa=.bool false,Eh=.bool false,Gi=undef,EQ=undef,IK=undef,UK=undef,Wj=.bool false]/\Inv w [] [] S1 w_,⟨Fx.nil _ _,f.draw⟩,⟨?_,?_,?_,?_,?_,?_,?_,?_,?_,?_,?_,?_,?_,?_,?_,?_,?_,?_,?_,?_,?_,?_,?_,?_,?_,trivial⟩,?_⟩;all_goals (intro D bH; intros; rename_i Wj UK IK EQ Gi Eh Fa EG E3 GO JR Jd Gr O Cu Cw U V Y F0 Aa Ea Ah FB Z w_ G; have a:=G.1; obtain ⟨⟨cI,cJ,cH,cD,cL,cN,m,dg,dG,dL,cT,dn,dN,fE,gy,gP,iH,kw,lQ,r,oW,sg,z5,AF,NB,_⟩,f⟩:=G)
     ·exact ⟨a.set 0 rfl,f⟩
     ·exact ⟨a.set 1 rfl,f⟩
     ·obtain rfl:=cI ‹_›;obtain rfl:=cJ ‹_›;refine bC (by omega) ?_;exact ⟨a.set 2 rfl,f⟩
     ·exact ⟨a.set 3 rfl,f⟩
     ·obtain rfl:=cD ‹_›;refine ge aZ ?_;exact ⟨a.set 4 rfl,f⟩
     ·obtain rfl:=cH ‹_›;obtain rfl:=cL ‹_›;refine LM (by omega) ?_;exact ⟨a.set 5 rfl,f⟩
     ·obtain rfl:=cN ‹_›;exact ⟨a.set 6 rfl,f⟩
     ·obtain rfl:=m ‹_›;refine bz ?_;exact ⟨a.set 7 rfl,f⟩
     ·obtain rfl:=m ‹_›;refine bz ?_;exact ⟨a.set 8 rfl,f⟩
     ·obtain rfl:=m ‹_›;refine bz ?_;exact ⟨a.set 9 rfl,f⟩
     ·obtain rfl:=m ‹_›;refine bz ?_;exact ⟨a.set 10 rfl,f⟩
     ·obtain rfl:=dL ‹_›;obtain rfl:=cT ‹_›;obtain rfl:=m ‹_›;refine bz ?_; refine bC (by omega) ?_;exact ⟨a.set 11 rfl,f⟩
     ·obtain rfl:=dg ‹_›;obtain rfl:=dG ‹_›;obtain rfl:=dn ‹_›;obtain rfl:=m ‹_›;refine bz ?_; refine F5 aZ (by omega) (by omega) ?_;exact ⟨a.set 12 rfl,f⟩
     ·obtain rfl:=m ‹_›;refine bz ?_;exact ⟨a.set 13 rfl,f⟩
     ·obtain rfl:=m ‹_›;refine bz ?_;exact ⟨a.set 14 rfl,f⟩
     ·obtain rfl:=fE ‹_›;obtain rfl:=gy ‹_›;obtain rfl:=m ‹_›;refine bz ?_; refine az cV hj ?_;exact ⟨a.set 15 rfl,f⟩
     ·obtain rfl:=gP ‹_›;obtain rfl:=m ‹_›;refine bz ?_; refine cQ be ((f.cellS hS).trans N) ?_;exact ⟨a.set 16 rfl,f⟩
     ·obtain rfl:=dN ‹_›;obtain rfl:=iH ‹_›;obtain rfl:=m ‹_›;refine bz ?_; refine bQ ?_; rw [hq];exact ⟨a.set 17 rfl,f⟩
     ·obtain rfl:=m ‹_›;obtain rfl:=kw ‹_›;refine zp ?_;exact ⟨a.set 18 rfl,f⟩
     ·obtain rfl:=lQ ‹_›;exact ⟨a.set 19 rfl,f⟩
     ·obtain rfl:=r ‹_›;refine cG (c:=false) (b:=true) (by decide) ?_;exact ⟨a.set 20 rfl,f⟩
     ·obtain rfl:=r ‹_›;refine cG (c:=false) (b:=true) (by decide) ?_;exact ⟨a.set 21 rfl,f⟩
     ·obtain rfl:=sg ‹_›;obtain rfl:=r ‹_›;refine cG (c:=false) (b:=true) (by decide) ?_;exact ⟨a.set 22 rfl,f⟩
     ·obtain rfl:=oW ‹_›;obtain rfl:=z5 ‹_›;obtain rfl:=r ‹_›;refine cG (c:=false) (b:=true) (by decide) ?_;exact ⟨a.set 23 rfl,f⟩
     ·obtain rfl:=r ‹_›;obtain rfl:=AF ‹_›;refine qU ?_;exact ⟨a.set 24 rfl,f⟩
     obtain ⟨rfl,rfl,rfl,rfl,rfl,rfl,rfl,rfl,rfl,rfl,rfl,rfl,rfl,rfl,rfl,rfl,rfl,rfl,rfl,rfl,rfl,rfl,rfl,rfl,rfl,_⟩:=a.all;clear a cI cJ cH cD cL cN m dg dG dL cT dn dN fE gy gP iH kw lQ r oW sg z5 AF NB;refine aD (fun B=>by cases B) (fun _=>?_);refine ⟨l,rfl,a1,?_,f⟩;rw [ag] at g
     ·exact g
     ·rintro ⟨_,h2,_⟩;rw [mK] at hq;exact hq (by rw [h2])
    ·rw [bD] at hq;have a5:=hq;have hq:decide (st (cut s i (i+x.size))=x)=true:=aN a5
     skip
     refine ⟨fun D Wj UK IK EQ Gi Eh Fa EG E3 GO JR Jd Gr O Cu Cw U V Y F0 Aa Ea Ah FB Z w_=>Fx D 0 [Z=.int .i64 (i:Int),FB=.int .i64 (x.size:Int),Ah=.int .i64 ((i+x.size:Nat):Int),Ea=.string (st s),Aa=.int .i64 (s.length:Int),F0=.bool true,Y=.bool true,V=.string (st s),U=.int .i64 (i:Int),Cw=.int .i64 (i:Int),Cu=.int .i64 (x.size:Int),O=.int .i64 ((i+x.size:Nat):Int),Gr=.string (st (cut s i (i+x.size))),Jd=.slice (some ⟨b,o,none⟩) signs.length cap,JR=.int .i64 (j:Int),GO=.pointer (some ⟨b,o+j * 1,none⟩),E3=.string x,EG=.bool true,Fa=.bool true,Eh=.bool true,Gi=.int .i64 (x.size:Int),EQ=.string (st l),IK=.int .i64 (l.length:Int),UK=.bool (decide ((l.length:Int)<(x.size:Int))),Wj=.bool (decide ((l.length:Int)<(x.size:Int)))]/\Inv w [] [] S1 w_,⟨Fx.nil _ _,f.draw⟩,⟨?_,?_,?_,?_,?_,?_,?_,?_,?_,?_,?_,?_,?_,?_,?_,?_,?_,?_,?_,?_,?_,?_,?_,?_,?_,trivial⟩,?_⟩;all_goals (intro D bH; intros; rename_i Wj UK IK EQ Gi Eh Fa EG E3 GO JR Jd Gr O Cu Cw U V Y F0 Aa Ea Ah FB Z w_ G; have a:=G.1; obtain ⟨⟨cI,cJ,cH,cD,cL,cN,m,dg,dG,dL,cT,dn,dN,fE,gy,gP,iH,kw,lQ,r,oW,sg,z5,AF,NB,_⟩,f⟩:=G)
     ·exact ⟨a.set 0 rfl,f⟩
     ·exact ⟨a.set 1 rfl,f⟩
     ·obtain rfl:=cI ‹_›;obtain rfl:=cJ ‹_›;refine bC (by omega) ?_;exact ⟨a.set 2 rfl,f⟩
     ·exact ⟨a.set 3 rfl,f⟩
     ·obtain rfl:=cD ‹_›;refine ge aZ ?_;exact ⟨a.set 4 rfl,f⟩
     ·obtain rfl:=cH ‹_›;obtain rfl:=cL ‹_›;refine LM (by omega) ?_;exact ⟨a.set 5 rfl,f⟩
     ·obtain rfl:=cN ‹_›;exact ⟨a.set 6 rfl,f⟩
     ·obtain rfl:=m ‹_›;refine bz ?_;exact ⟨a.set 7 rfl,f⟩
     ·obtain rfl:=m ‹_›;refine bz ?_;exact ⟨a.set 8 rfl,f⟩
     ·obtain rfl:=m ‹_›;refine bz ?_;exact ⟨a.set 9 rfl,f⟩
     ·obtain rfl:=m ‹_›;refine bz ?_;exact ⟨a.set 10 rfl,f⟩
     ·obtain rfl:=dL ‹_›;obtain rfl:=cT ‹_›;obtain rfl:=m ‹_›;refine bz ?_; refine bC (by omega) ?_;exact ⟨a.set 11 rfl,f⟩
     ·obtain rfl:=dg ‹_›;obtain rfl:=dG ‹_›;obtain rfl:=dn ‹_›;obtain rfl:=m ‹_›;refine bz ?_; refine F5 aZ (by omega) (by omega) ?_;exact ⟨a.set 12 rfl,f⟩
     ·obtain rfl:=m ‹_›;refine bz ?_;exact ⟨a.set 13 rfl,f⟩
     ·obtain rfl:=m ‹_›;refine bz ?_;exact ⟨a.set 14 rfl,f⟩
     ·obtain rfl:=fE ‹_›;obtain rfl:=gy ‹_›;obtain rfl:=m ‹_›;refine bz ?_; refine az cV hj ?_;exact ⟨a.set 15 rfl,f⟩
     ·obtain rfl:=gP ‹_›;obtain rfl:=m ‹_›;refine bz ?_; refine cQ be ((f.cellS hS).trans N) ?_;exact ⟨a.set 16 rfl,f⟩
     ·obtain rfl:=dN ‹_›;obtain rfl:=iH ‹_›;obtain rfl:=m ‹_›;refine bz ?_; refine bQ ?_; rw [hq];exact ⟨a.set 17 rfl,f⟩
     ·obtain rfl:=m ‹_›;obtain rfl:=kw ‹_›;refine zp ?_;exact ⟨a.set 18 rfl,f⟩
     ·obtain rfl:=lQ ‹_›;exact ⟨a.set 19 rfl,f⟩
     ·obtain rfl:=r ‹_›;refine bz ?_;exact ⟨a.set 20 rfl,f⟩
     ·obtain rfl:=r ‹_›;refine bz ?_;exact ⟨a.set 21 rfl,f⟩
     ·obtain rfl:=sg ‹_›;obtain rfl:=r ‹_›;refine bz ?_; refine ge aZ ?_;exact ⟨a.set 22 rfl,f⟩
     ·obtain rfl:=oW ‹_›;obtain rfl:=z5 ‹_›;obtain rfl:=r ‹_›;refine bz ?_; refine eP ?_;exact ⟨a.set 23 rfl,f⟩
     ·obtain rfl:=r ‹_›;obtain rfl:=AF ‹_›;refine zp ?_;exact ⟨a.set 24 rfl,f⟩
     obtain ⟨rfl,rfl,rfl,rfl,rfl,rfl,rfl,rfl,rfl,rfl,rfl,rfl,rfl,rfl,rfl,rfl,rfl,rfl,rfl,rfl,rfl,rfl,rfl,rfl,rfl,_⟩:=a.all;clear a cI cJ cH cD cL cN m dg dG dL cT dn dN fE gy gP iH kw lQ r oW sg z5 AF NB;have a0:cut s i (i+x.size)=bs x:=by rw [<- JT (cut s i (i+x.size)),a5]
     refine aL (fun B=>?_) (fun B=>?_)
     ·refine az cV hj ?_;refine cQ be ((f.cellS hS).trans N) ?_;refine ⟨bs x,rfl,by rw [<- a0,Lv M]; omega,?_,f⟩;rw [ai ⟨aN M,a0,by omega⟩] at g;exact g
     ·refine ⟨l,rfl,a1,?_,f⟩;rw [ag] at g
      ·exact g
      ·rintro ⟨_,_,h3⟩;omega
   ·skip
    refine ⟨fun D Wj UK IK EQ Gi Eh Fa EG E3 GO JR Jd Gr O Cu Cw U V Y F0 Aa Ea Ah FB Z w_=>Fx D 0 [Z=.int .i64 (i:Int),FB=.int .i64 (x.size:Int),Ah=.int .i64 ((i+x.size:Nat):Int),Ea=.string (st s),Aa=.int .i64 (s.length:Int),F0=.bool false,Y=.bool false,V=undef,U=undef,Cw=undef,Cu=undef,O=undef,Gr=undef,Jd=undef,JR=undef,GO=undef,E3=undef,EG=undef,Fa=.bool false,Eh=.bool false,Gi=undef,EQ=undef,IK=undef,UK=undef,Wj=.bool false]/\Inv w [] [] S1 w_,⟨Fx.nil _ _,f.draw⟩,⟨?_,?_,?_,?_,?_,?_,?_,?_,?_,?_,?_,?_,?_,?_,?_,?_,?_,?_,?_,?_,?_,?_,?_,?_,?_,trivial⟩,?_⟩;all_goals (intro D bH; intros; rename_i Wj UK IK EQ Gi Eh Fa EG E3 GO JR Jd Gr O Cu Cw U V Y F0 Aa Ea Ah FB Z w_ G; have a:=G.1; obtain ⟨⟨cI,cJ,cH,cD,cL,cN,m,dg,dG,dL,cT,dn,dN,fE,gy,gP,iH,kw,lQ,r,oW,sg,z5,AF,NB,_⟩,f⟩:=G)
    ·exact ⟨a.set 0 rfl,f⟩
    ·exact ⟨a.set 1 rfl,f⟩
    ·obtain rfl:=cI ‹_›;obtain rfl:=cJ ‹_›;refine bC (by omega) ?_;exact ⟨a.set 2 rfl,f⟩
    ·exact ⟨a.set 3 rfl,f⟩
    ·obtain rfl:=cD ‹_›;refine ge aZ ?_;exact ⟨a.set 4 rfl,f⟩
    ·obtain rfl:=cH ‹_›;obtain rfl:=cL ‹_›;refine TS (by omega) ?_;exact ⟨a.set 5 rfl,f⟩
    ·obtain rfl:=cN ‹_›;exact ⟨a.set 6 rfl,f⟩
    ·obtain rfl:=m ‹_›;refine cG (c:=false) (b:=true) (by decide) ?_;exact ⟨a.set 7 rfl,f⟩
    ·obtain rfl:=m ‹_›;refine cG (c:=false) (b:=true) (by decide) ?_;exact ⟨a.set 8 rfl,f⟩
    ·obtain rfl:=m ‹_›;refine cG (c:=false) (b:=true) (by decide) ?_;exact ⟨a.set 9 rfl,f⟩
    ·obtain rfl:=m ‹_›;refine cG (c:=false) (b:=true) (by decide) ?_;exact ⟨a.set 10 rfl,f⟩
    ·obtain rfl:=dL ‹_›;obtain rfl:=cT ‹_›;obtain rfl:=m ‹_›;refine cG (c:=false) (b:=true) (by decide) ?_;exact ⟨a.set 11 rfl,f⟩
    ·obtain rfl:=dg ‹_›;obtain rfl:=dG ‹_›;obtain rfl:=dn ‹_›;obtain rfl:=m ‹_›;refine cG (c:=false) (b:=true) (by decide) ?_;exact ⟨a.set 12 rfl,f⟩
    ·obtain rfl:=m ‹_›;refine cG (c:=false) (b:=true) (by decide) ?_;exact ⟨a.set 13 rfl,f⟩
    ·obtain rfl:=m ‹_›;refine cG (c:=false) (b:=true) (by decide) ?_;exact ⟨a.set 14 rfl,f⟩
    ·obtain rfl:=fE ‹_›;obtain rfl:=gy ‹_›;obtain rfl:=m ‹_›;refine cG (c:=false) (b:=true) (by decide) ?_;exact ⟨a.set 15 rfl,f⟩
    ·obtain rfl:=gP ‹_›;obtain rfl:=m ‹_›;refine cG (c:=false) (b:=true) (by decide) ?_;exact ⟨a.set 16 rfl,f⟩
    ·obtain rfl:=dN ‹_›;obtain rfl:=iH ‹_›;obtain rfl:=m ‹_›;refine cG (c:=false) (b:=true) (by decide) ?_;exact ⟨a.set 17 rfl,f⟩
    ·obtain rfl:=m ‹_›;obtain rfl:=kw ‹_›;refine qU ?_;exact ⟨a.set 18 rfl,f⟩
    ·obtain rfl:=lQ ‹_›;exact ⟨a.set 19 rfl,f⟩
    ·obtain rfl:=r ‹_›;refine cG (c:=false) (b:=true) (by decide) ?_;exact ⟨a.set 20 rfl,f⟩
    ·obtain rfl:=r ‹_›;refine cG (c:=false) (b:=true) (by decide) ?_;exact ⟨a.set 21 rfl,f⟩
    ·obtain rfl:=sg ‹_›;obtain rfl:=r ‹_›;refine cG (c:=false) (b:=true) (by decide) ?_;exact ⟨a.set 22 rfl,f⟩
    ·obtain rfl:=oW ‹_›;obtain rfl:=z5 ‹_›;obtain rfl:=r ‹_›;refine cG (c:=false) (b:=true) (by decide) ?_;exact ⟨a.set 23 rfl,f⟩
    ·obtain rfl:=r ‹_›;obtain rfl:=AF ‹_›;refine qU ?_;exact ⟨a.set 24 rfl,f⟩
    obtain ⟨rfl,rfl,rfl,rfl,rfl,rfl,rfl,rfl,rfl,rfl,rfl,rfl,rfl,rfl,rfl,rfl,rfl,rfl,rfl,rfl,rfl,rfl,rfl,rfl,rfl,_⟩:=a.all;clear a cI cJ cH cD cL cN m dg dG dL cT dn dN fE gy gP iH kw lQ r oW sg z5 AF NB;refine aD (fun B=>by cases B) (fun _=>?_);refine ⟨l,rfl,a1,?_,f⟩;rw [ag] at g
    ·exact g
    ·rintro ⟨h1,_⟩;rw [bD] at h1;exact M h1
  intro t7 _ _ _ _ _ _ _ _ _ _ _ _ _ _ _ _ _ _ _ _ _ _ _ _ _ _ _ _ _ _ _ _ _ _ _ w';rintro ⟨q,rfl,a4,a6,f⟩;refine bC (by omega) ?_;exact ⟨⟨j+1,q,hj,rfl,rfl,a4,a6,f⟩,by simp [intOf]; omega⟩
 ·have:j=signs.length:=by omega
  subst this;rw [eC,jR] at g;rw [<- g] at J;refine bQ ?_;refine aL (fun B=>?_) (fun B=>?_)
  ·have:l=[]:=by rw [<- JT l,B]
   exact iw f a3 (by rw [J,ai this]; rfl)
  ·have:¬ l=[]:=fun h=>B (by rw [h]);refine ge aZ ?_;refine bC (by omega) ?_;exact iw f a3 (by rw [J,ag this]; rfl)
end
theorem BF (s:Bs) (i:Nat):∀ (l:List ByteArray) (b:Bs),(∀ x∈l,x.size<=3)->b.length<=3->i+b.length<=s.length->i+(jR s i l b).length<=s.length/\(jR s i l b).length<=3
 | [],b,_,h2,h3=>⟨h3,h2⟩
 | x::l,b,h1,h2,h3=>by
  rw [jR];have f:(bs x).length=x.size:=Qp;split
  ·rename_i h
   exact BF s i l _ (fun y a=>h1 y (aR _ a)) (by rw [f]; exact h1 x (aM ..)) (by rw [f]; exact of_decide_eq_true h.1)
  ·exact BF s i l _ (fun y a=>h1 y (aR _ a)) h2 h3
theorem Q8 (s:Bs):∀ (n e:Nat),e<=Dz s n e/\Dz s n e<=e+n
 | 0,e=>by simp [Dz]
 | n+1,e=>by
  rw [Dz];split
  ·have:=Q8 s n (e+1); omega
  ·omega
theorem yD {s:Bs} {i:Nat} {n:Bs} {e:Nat} (g:i<s.length) (h:zI s i=some (n,e)):i<e/\e<=s.length/\n.length<=6/\n≠[]:=by
 have hl:=Q8 s (s.length - i) i;have r:=BF s i signs [] Nr (by simp) (by simpa using Nat.le_of_lt g);unfold zI at h;simp only [] at h;split at h
 ·cases h
 ·split at h
  ·simp only [aY,cE] at h;obtain ⟨rfl,rfl⟩:=h;rename_i q m
   have hc:=Lv (s:=s) (a:=i) (b:=Dz s (s.length - i) i) (by omega);refine ⟨m,by omega,by omega,fun h=>?_⟩;rw [h] at hc;simp at hc;omega
  ·split at h
   ·cases h
   ·simp only [aY,cE] at h;obtain ⟨rfl,rfl⟩:=h;rename_i f
    have:0<(jR s i signs []).length:=by
     cases o:jR s i signs [] with
     | nil=>exact absurd o f
     | cons a l=>simp
    exact ⟨by omega,by omega,by omega,f⟩
def opV (o:Option (Bs × Nat)) (i:Nat):Value:=match o with
 | none=>.tuple #[.string ⟨#[]⟩,.int .i64 (i:Int)]
 | some (n,e)=>.tuple #[.string (st n),.int .i64 (e:Int)]
theorem V6 {s:Bs} {i:Nat} {n:Bs} {e:Nat} (h:opF s i=some (n,e)):i<e/\e<=s.length/\n.length<=6/\n≠[]:=by
 unfold opF at h;obtain ⟨fr,a⟩:∃ fr,fr=if sgn s i 32=true then i+1 else i:=⟨_,rfl⟩
 simp only [<- a] at h;have r:i<=fr:=by rw [a]; split <;> omega
 split at h
 ·cases h
 rename_i g
 split at h
 ·cases h
 rename_i t B f
 obtain ⟨D,m,o,q⟩:=yD (by omega) f;split at h
 ·cases h
 rename_i hc
 simp only [not_or,not_and,Bool.not_eq_false] at hc;simp only [aY,cE] at h;obtain ⟨rfl,rfl⟩:=h;refine ⟨by split <;> omega,?_,o,q⟩;split
 ·rename_i l
  have:=jE (hc.2.2 l);omega
 ·exact m
section
attribute [local irreducible] Run CondV aq aK
theorem O8 {s:Bs} {i:Nat} (U:s.length<=100000) (Z:i<=s.length) (S:ae):Pure Tryz.prog Us [.string (st s),.int .i64 (i:Int)] S (opV (opF s i) i):=by
 intro w a;refine IR.2 ?_;dsimp only[IR,bm];obtain ⟨fr,o⟩:∃ fr,fr=if sgn s i 32=true then i+1 else i:=⟨_,rfl⟩
 have Y:i<=fr/\fr<=i+1:=by rw [o]; split <;> omega
 obtain ⟨r,g⟩:∃ r,r=opF s i:=⟨_,rfl⟩
 rw [<- g];unfold opF at g;simp only [<- o] at g;refine ⟨fun t w'=>t=.int .i64 (fr:Int)/\Inv w [] [] S w',?_,?_⟩
 ·refine Run.callPure dw dv a (df s i 32 S) fun w' a=>?_;refine aD (fun B=>?_) (fun B=>?_)
  ·refine bC (by omega) ?_;rw [ai B] at o;exact ⟨by rw [o]; congr 1,a⟩
  ·rw [ag (by rw [B]; decide)] at o;exact ⟨by rw [o],a⟩
 intro t6 _ _ _ _ _ w';rintro ⟨rfl,a⟩;refine ge aZ ?_;refine jM ?_;refine aL (fun B=>?_) (fun B=>?_)
 ·rw [ai (by omega)] at g;exact done a (by rw [g]; rfl)
 rw [ag (by omega)] at g;refine Run.callPure CL CF a (yO (by omega) U S) fun w' a=>?_;cases D:zI s fr with
 | none=>
  rw [D] at g;simp only [] at g;simp only [Rg];refine av rfl ?_;refine av rfl ?_;refine ⟨fun t w'=>t=.bool true/\Inv w [] [] S w',?_,?_⟩
  ·refine Gg (by omega) ?_;refine rpG ?_;exact ⟨rfl,a⟩
  intro M _ _ _ _ _ _ w';rintro ⟨rfl,a⟩;exact aD (fun _=>done a (by rw [g]; rfl)) (fun B=>by cases B)
 | some q=>
  obtain ⟨J,G⟩:=q;rw [D] at g;simp only [] at g;obtain ⟨h1,h2,h3,h4⟩:=yD (by omega) D;simp only [Rg];refine av (v:=.string (st J)) rfl ?_;refine av (v:=.int .i64 (G:Int)) rfl ?_;refine ⟨fun t w'=>t=.bool (decide (cS (st J)=0))/\Inv w [] [] S w',?_,?_⟩
  ·refine fw (by omega) ?_;refine rpG ?_;refine Run.callPure gi gg a (eG _ S) fun w' a=>?_;refine bw ?_;refine rpG ?_;exact ⟨rfl,a⟩
  intro M _ _ _ _ _ _ w';rintro ⟨rfl,a⟩;refine aL (fun B=>?_) (fun B=>?_)
  ·rw [ai (.inl B)] at g;exact done a (by rw [g]; rfl)
  obtain ⟨f,m⟩:∃ f,f=(decide (J=[105,115]) || decide (J=[109,111,100])):=⟨_,rfl⟩
  rw [<- m] at g;refine ⟨fun t w'=>t=.bool f/\Inv w [] [] S w',?_,?_⟩
  ·refine GP (b:=[105,115]) ?_;cases O:decide (J=[105,115])
   ·refine rpG ?_;refine GP (b:=[109,111,100]) ?_;refine rpG ?_;exact ⟨by rw [m,O,iz],a⟩
   ·refine rpG ?_;exact ⟨by rw [m,O,zO],a⟩
  intro t9 _ _ _ _ _ _ w';rintro ⟨rfl,a⟩;refine ⟨fun t w'=>t=.bool (decide (f≠decide (i<fr)) || (f && !sgn s G 32))/\Inv w [] [] S w',?_,?_⟩
  ·refine eP ?_;refine TY Ef ?_;have e1:decide ((i:Int)<(fr:Int))=decide (i<fr):=by rw [gB]; omega
   rw [e1];cases h6:decide (i<fr) <;> cases f
   ·refine rpG ?_;exact ⟨by rfl,a⟩
   ·refine rpG ?_;exact ⟨by rfl,a⟩
   ·refine rpG ?_;exact ⟨by rfl,a⟩
   ·refine rpG ?_;refine Run.callPure dw dv a (df s G 32 S) fun w' a=>?_;refine cw ?_;refine rpG ?_;exact ⟨by simp,a⟩
  intro V _ _ _ _ _ _ _ _ _ _ _ _ _ w';rintro ⟨rfl,a⟩;refine aD (fun l=>?_) (fun l=>?_)
  ·rw [ai] at g
   ·exact done a (by rw [g]; rfl)
   ·rw [jc,bD,bM,o6] at l;exact .inr l
  ·rw [ag] at g
   ·refine ⟨fun t w'=>t=.int .i64 ((if f=true then G+1 else G:Nat):Int)/\Inv w [] [] S w',?_,?_⟩
    ·refine aD (fun N=>?_) (fun N=>?_)
     ·refine bC (by omega) ?_;exact ⟨by rw [ai N]; congr 1,a⟩
     ·exact ⟨by rw [ag (by rw [N]; decide)],a⟩
    intro t8 _ _ _ w';rintro ⟨rfl,a⟩;exact done a (by rw [g]; rfl)
   ·rw [IQ,mK] at l;rintro (h|h|⟨h,h'⟩)
    ·exact B h
    ·exact l.1 h
    ·rw [h,h'] at l;simp at l
end
end Go.Proofs.YtgllldjiaglkcaaGreatDoor
