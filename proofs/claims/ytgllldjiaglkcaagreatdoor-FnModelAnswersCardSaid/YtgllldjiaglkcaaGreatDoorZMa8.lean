/- Bytes, numbers, names and operators in texts: spec.l1Sign and its kin. (printed by gen_byt.py) -/
import Derived.Test.YtgllldjiaglkcaaGreatDoorZMa7
import Derived.Test.YtgllldjiaglkcaaGreatDoorZMaF
namespace Go.Proofs.YtgllldjiaglkcaaGreatDoor
open Go Go.RowKit
theorem jh {s:Bs} {i:Nat} (h:i<s.length) (c:Nat):sgn s i c=decide (s[i].toNat=c):=by simp [sgn,List.getElem?_eq_getElem h]
theorem Wp {s:Bs} {i:Nat} (h:¬ i<s.length) (c:Nat):sgn s i c=false:=by simp [sgn,List.getElem?_eq_none (Nat.le_of_not_lt h)]
theorem lo {s:Bs} {i:Nat} (h:i<s.length) (a b:Nat):btw s i a b=(decide (a<=s[i].toNat) && decide (s[i].toNat<=b)):=by simp [btw,List.getElem?_eq_getElem h]
theorem Rg {s:Bs} {i:Nat} (h:¬ i<s.length) (a b:Nat):btw s i a b=false:=by simp [btw,List.getElem?_eq_none (Nat.le_of_not_lt h)]
theorem Gy {s:Bs} {i a b:Nat} (h:btw s i a b=true):i<s.length:=by
 rcases NG i s.length with h1|h1
 ·exact h1
 ·rw [Rg (by omega)] at h; cases h
theorem g8 {s:Bs} {i c:Nat} (h:sgn s i c=true):i<s.length:=by
 rcases NG i s.length with h1|h1
 ·exact h1
 ·rw [Wp (by omega)] at h; cases h
section
attribute [local irreducible] Run CondV aw aN
theorem cC (s:Bs) (i c:Nat) (S:af):Pure Tryz.prog SZ [.string (st s),.int .i64 (i:Int),.int .u8 (c:Int)] S (.bool (sgn s i c)):=by
 intro w hI
 refine Dq.2 ?_
 dsimp only[Dq,dV]
 refine o9 (by omega) ?_
 refine rpG ?_
 refine fR aU ?_
 by_cases h:i<s.length
 ·refine Gc (by omega) ?_
  refine rpG ?_
  refine dZ aU h ?_
  refine bo ?_
  refine rpG ?_
  refine done hI ?_
  rw [jh h]
  congr 1
  rw [fK]
  omega
 ·refine eT (by omega) ?_
  refine rpG ?_
  exact done hI (by rw [Wp h])
theorem fm (s:Bs) (i:Nat) (S:af):Pure Tryz.prog OP [.string (st s),.int .i64 (i:Int)] S (.bool (dig s i)):=by
 intro w hI
 refine yp.2 ?_
 dsimp only[yp,aZ]
 refine o9 (by omega) ?_
 refine rpG ?_
 refine fR aU ?_
 by_cases h:i<s.length
 ·refine Gc (by omega) ?_
  refine rpG ?_
  refine dZ aU h ?_
  rw [dig,lo h]
  by_cases h2:48<=s[i].toNat
  ·refine o9 (by omega) ?_
   refine rpG ?_
   refine dZ aU h ?_
   refine fU ?_
   refine rpG ?_
   refine done hI ?_
   rw [aM h2,dM]
   congr 1
   rw [fK]
   omega
  ·refine tO (by omega) ?_
   refine rpG ?_
   exact done hI (by rw [aW h2,g6])
 ·refine eT (by omega) ?_
  refine rpG ?_
  exact done hI (by rw [dig,Rg h])
theorem rv (s:Bs) (i:Nat) (S:af):Pure Tryz.prog Pt [.string (st s),.int .i64 (i:Int)] S (.bool (sml s i)):=by
 intro w hI
 refine z3.2 ?_
 dsimp only[z3,aZ]
 refine o9 (by omega) ?_
 refine rpG ?_
 refine fR aU ?_
 by_cases h:i<s.length
 ·refine Gc (by omega) ?_
  refine rpG ?_
  refine dZ aU h ?_
  rw [sml,lo h]
  by_cases h2:97<=s[i].toNat
  ·refine o9 (by omega) ?_
   refine rpG ?_
   refine dZ aU h ?_
   refine fU ?_
   refine rpG ?_
   refine done hI ?_
   rw [aM h2,dM]
   congr 1
   rw [fK]
   omega
  ·refine tO (by omega) ?_
   refine rpG ?_
   exact done hI (by rw [aW h2,g6])
 ·refine eT (by omega) ?_
  refine rpG ?_
  exact done hI (by rw [sml,Rg h])
end
theorem T5 {s:Bs} {i:Nat} (h:i<s.length):dig s i=true↔48<=s[i].toNat/\s[i].toNat<=57:=by
 rw [dig,lo h,bw,bk,bk]
theorem Vv {d:Bs} {j:Nat} (h:j<d.length) (m:Nat):J0 (d.drop j) m=J0 (d.drop (j+1)) (m * 10+(d[j].toNat - 48)):=by
 rw [cZ h,J0]
section
attribute [local irreducible] Run CondV aw aN
theorem Md (d:Bs) (hd:∀ i,i<d.length->dig d i=true) (h0:0<d.length) (h4:d.length<=4) (hz:¬ (sgn d 0 48=true/\1<d.length)) (S:af) :
  Pure Tryz.prog Rl [.string (st d)] S (.tuple #[.int .i64 ((J0 d 0:Nat):Int),.bool true]):=by
 intro w hI
 refine DA.2 ?_
 dsimp only[DA,aL]
 have hd0:=(T5 h0).1 (hd 0 h0)
 refine ⟨fun t w'=>t=.bool false/\Inv w [] [] S w',?_,?_⟩
 ·refine fR aU ?_
  refine Sa (by omega) ?_
  refine rpG ?_
  refine dZ (i:=0) aU h0 ?_
  refine ew (by omega) ?_
  refine rpG ?_
  exact ⟨rfl,hI⟩
 intro t4 _ _ _ _ _ _ _ _ w'
 rintro ⟨rfl,hI⟩
 refine ⟨fun t w'=>t=.string (st d)/\Inv w [] [] S w',?_,?_⟩
 ·exact az (fun hb=>by cases hb) (fun _=>⟨rfl,hI⟩)
 intro t0 _ _ _ w'
 rintro ⟨rfl,hI⟩
 refine ⟨fun t w'=>t=.bool false/\Inv w [] [] S w',?_,?_⟩
 ·refine fR aU ?_
  refine ew (by omega) ?_
  refine rpG ?_
  refine fR aU ?_
  refine oZ (by omega) ?_
  refine rpG ?_
  refine dZ (i:=0) aU h0 ?_
  by_cases hs:d[0].toNat=48
  ·refine gk (by omega) ?_
   refine rpG ?_
   refine fR aU ?_
   refine oZ (by
    have:¬ 1<d.length:=fun h=>hz ⟨by rw [jh h0,hs]; rfl,h⟩
    omega) ?_
   refine rpG ?_
   exact ⟨rfl,hI⟩
  ·refine ew (by omega) ?_
   refine rpG ?_
   exact ⟨rfl,hI⟩
 intro t38 _ _ _ _ _ _ _ _ _ _ _ _ _ _ _ _ _ _ _ _ w'
 rintro ⟨rfl,hI⟩
 refine az (fun hb=>by cases hb) (fun _=>?_)
 refine ⟨fun i n w'=>∃ j m:Nat,j<=d.length/\i=.int .i64 j/\n=.int .i64 m/\m<10 ^ j/\J0 (d.drop j) m=J0 d 0/\Inv w [] [] S w',fun i _ _=>d.length - (intOf i).toNat,
  ⟨0,0,be _,rfl,rfl,by simp,rfl,hI⟩,?_⟩
 intro t6 _ _ t5 _ _ _ _ _ _ _ _ _ _ _ _ _ _ _ _ _ _ _ _ _ _ _ _ w'
 rintro ⟨j,m,hj,rfl,rfl,hm,hval,hI⟩
 have hp:10 ^ j<=10 ^ 4:=MM (by omega) (by omega)
 refine fR aU ?_
 refine bF ?_
 refine aI (fun hji=>?_) (fun hji=>?_)
 ·have hj':j<d.length:=by omega
  have hdj:=(T5 hj').1 (hd j hj')
  refine ⟨fun t w'=>t=.bool false/\Inv w [] [] S w',?_,?_⟩
  ·refine dZ aU hj' ?_
   refine eT (by omega) ?_
   refine rpG ?_
   refine dZ aU hj' ?_
   refine oZ (by omega) ?_
   refine rpG ?_
   exact ⟨rfl,hI⟩
  intro t54 _ _ _ _ _ _ _ _ _ w'
  rintro ⟨rfl,hI⟩
  refine az (fun hb=>by cases hb) (fun _=>?_)
  refine Hm (by omega) ?_
  refine dZ aU hj' ?_
  refine Tz (c:=((d[j].toNat - 48:Nat):Int)) ?_ ?_
  ·rw [IntWalk.u8_in _ (by omega)]; omega
  refine qz gq fQ (IntWalk.i64_in _ (by omega)) ?_
  refine bq (by omega) ?_
  refine bq (by omega) ?_
  refine ⟨⟨j+1,m * 10+(d[j].toNat - 48),hj',rfl,?_,?_,?_,hI⟩,by simp [intOf]; omega⟩
  ·congr 1
  ·rw [Nat.pow_succ]; omega
  ·rw [<- hval,Vv hj']
 ·have:j=d.length:=by omega
  subst this
  rw [dL,J0] at hval
  refine ⟨fun t w'=>t=.int .i64 m/\Inv w [] [] S w',az (fun hb=>by cases hb) (fun _=>⟨rfl,hI⟩),?_⟩
  intro t5 _ _ _ w'
  rintro ⟨rfl,hI⟩
  exact done hI (by rw [hval])
abbrev KW (k n:Int):Value:=.agg #[.int .i64 k,.int .i64 n,.string ⟨#[]⟩,.slice none 0 0]
theorem tp {w:World} {K:Value->World->Prop} {k n:Int} (hk:K (KW k n) w):Run Tryz.prog (cU ac [(0,.int .i64 k),(1,.int .i64 n)]) w K:=by
 refine Run.of (v:=KW k n) (w':=w) ?_ hk
 unfold cU
 rw [Sem.run_bind,run_build w ac _ #[.int .i64 k,.int .i64 n,.string ⟨#[]⟩,.slice none 0 0] (by kernel_rfl),Result.andThen_ok]
 rfl
theorem o8 (n:Int) (S:af):Pure Tryz.prog Vu [.int .i64 n] S (KW 1 n):=by
 intro w hI
 refine GZ.2 ?_
 dsimp only[GZ,aL]
 refine aV hI aY fun b w' hI=>?_
 refine tp ?_
 refine aA hI 0 rfl ad rfl rfl (by simp [Value.oneCell']) fun w' hI=>?_
 refine bC hI 0 ad rfl rfl ?_
 exact done hI rfl
theorem o6 (n:Int) (S:af):Pure Tryz.prog VF [.int .i64 n] S (KW 2 n):=by
 intro w hI
 refine FV.2 ?_
 dsimp only[FV,aL]
 refine aV hI aY fun b w' hI=>?_
 refine tp ?_
 refine aA hI 0 rfl ad rfl rfl (by simp [Value.oneCell']) fun w' hI=>?_
 refine bC hI 0 ad rfl rfl ?_
 exact done hI rfl
end
theorem PJ (s:Bs) (n e:Nat):vC s (n+1) e=if dig s e=true then vC s n (e+1) else e:=rfl
theorem NC (s:Bs):∀ (n e:Nat),e<=vC s n e/\vC s n e<=e+n
 | 0,e=>by simp [vC]
 | n+1,e=>by
  rw [vC]
  split
  ·have:=NC s n (e+1); omega
  ·omega
theorem yo (s:Bs):∀ (n e i:Nat),e<=i->i<vC s n e->dig s i=true
 | 0,e,i,h1,h2=>by simp [vC] at h2; omega
 | n+1,e,i,h1,h2=>by
  rw [vC] at h2
  split at h2
  ·rename_i h
   by_cases he:e=i
   ·subst he; exact h
   ·exact yo s n (e+1) i (by omega) h2
  ·omega
theorem LT {s:Bs} {a b i:Nat} (hi:i<(cut s a b).length):∃ h:a+i<s.length,(cut s a b)[i]=s[a+i]/\a+i<b:=by
 have h1:(cut s a b).length=min b s.length - a:=by simp [cut]
 refine ⟨by omega,?_,by omega⟩
 simp [cut]
theorem NV {s:Bs} {a b:Nat} (hb:b<=s.length):(cut s a b).length=b - a:=by simp [cut]; omega
theorem Zc {s:Bs} {a b i:Nat} (hi:i<(cut s a b).length):dig (cut s a b) i=dig s (a+i):=by
 obtain ⟨h,e,_⟩:=LT hi
 rw [dig,dig,lo hi,lo h,e]
section
attribute [local irreducible] Run CondV aw aN
theorem HN {s:Bs} {i e:Nat} {t:T} (hn:Yd s i=some (t,e)) (hi:i<=100000) (S:af) :
  ∃ n:Int,inI n/\t=.mk 2 n emptyB []/\i<=e/\e<=i+5/\Pure Tryz.prog Me [.string (st s),.int .i64 (i:Int)] S (.tuple #[KW 2 n,.int .i64 (e:Int)]):=by
 unfold Yd at hn
 obtain ⟨fr,hfr⟩:∃ fr,fr=if sgn s i 45=true then i+1 else i:=⟨_,rfl⟩
 simp only [<- hfr] at hn
 obtain ⟨en,hen⟩:∃ en,en=vC s 4 fr:=⟨_,rfl⟩
 simp only [<- hen] at hn
 have hle:=NC s 4 fr
 rw [<- hen] at hle
 have hfi:i<=fr/\fr<=i+1:=by rw [hfr]; split <;> omega
 split at hn
 ·cases hn
 rename_i hc
 simp only [not_or] at hc
 obtain ⟨hc1,hc2,hc3,hc4⟩:=hc
 simp only [bg,cT] at hn
 obtain ⟨rfl,rfl⟩:=hn
 have hdig:∀ j,j<(cut s fr en).length->dig (cut s fr en) j=true:=fun j hj=>by
  obtain ⟨h1,h2,h3⟩:=LT hj
  rw [Zc hj]
  exact yo s 4 fr _ (by omega) (by rw [<- hen]; exact h3)
 have hlen0:0<(cut s fr en).length:=by
  cases he:cut s fr en with
  | nil=>exact absurd he hc1
  | cons a l=>simp
 have hen2:fr<en:=by
  obtain ⟨_,_,h3⟩:=LT hlen0
  omega
 have hens:en<=s.length:=by
  have:=yo s 4 fr (en - 1) (by omega) (by rw [<- hen]; omega)
  have:=Gy this
  omega
 refine ⟨_,?_,rfl,by omega,by omega,?_⟩
 ·unfold inI; split <;> omega
 intro w hI
 refine wj.2 ?_
 dsimp only[wj,aZ]
 refine aV hI aY fun b4 w' hI=>?_
 refine ⟨fun t w'=>t=.int .i64 (fr:Int)/\Inv w [] [.blk b4 (.cells #[.int .i64 0,.int .i64 0,.string ⟨#[]⟩,.slice none 0 0] ac)] S w',?_,?_⟩
 ·refine Run.callPure cP cQ hI (cC s i 45 S) fun w' hI=>?_
  refine az (fun hb=>?_) (fun hb=>?_)
  ·refine bq (by omega) ?_
   rw [ai hb] at hfr
   exact ⟨by rw [hfr]; congr 1,hI⟩
  ·rw [ah (by rw [hb]; decide)] at hfr
   exact ⟨by rw [hfr],hI⟩
 intro t6 _ _ _ _ _ w'
 rintro ⟨rfl,hI⟩
 refine ⟨fun t w'=>∃ j:Nat,t=.int .i64 (j:Int)/\fr<=j/\j<=fr+4/\vC s (fr+4 - j) j=en/\Inv w [] [.blk b4 (.cells #[.int .i64 0,.int .i64 0,.string ⟨#[]⟩,.slice none 0 0] ac)] S w',fun t _=>fr+4 - (intOf t).toNat,
  ⟨fr,rfl,aR _,by omega,by rw [oR]; exact hen.symm,hI⟩,?_⟩
 intro t6 _ _ _ _ _ _ _ _ _ _ _ w'
 rintro ⟨j,rfl,hj1,hj2,hj3,hI⟩
 refine ⟨fun t w'=>t=.bool (dig s j && decide (j<fr+4))/\Inv w [] [.blk b4 (.cells #[.int .i64 0,.int .i64 0,.string ⟨#[]⟩,.slice none 0 0] ac)] S w',?_,?_⟩
 ·refine Run.callPure im ia hI (fm s j S) fun w' hI=>?_
  cases hdj:dig s j
  ·refine rpG ?_
   exact ⟨rfl,hI⟩
  ·refine rpG ?_
   refine bq (by omega) ?_
   refine bF ?_
   refine rpG ?_
   refine ⟨?_,hI⟩
   rw [dM]
   congr 1
   rw [fK]
   omega
 intro t25 _ _ _ _ _ _ _ _ w'
 rintro ⟨rfl,hI⟩
 refine az (fun hb=>?_) (fun hb=>?_)
 ·rw [bw,bk] at hb
  refine bq (by omega) ?_
  refine ⟨⟨j+1,rfl,by omega,by omega,?_,hI⟩,by simp [intOf]; omega⟩
  rw [<- hj3,show fr+4 - j=(fr+4 - (j+1))+1 by omega,PJ,ai hb.1]
 ·have hje:j=en:=by
   rw [<- hj3]
   by_cases h4:j=fr+4
   ·rw [h4,eD]; rfl
   ·rw [show fr+4 - j=(fr+4 - (j+1))+1 by omega,PJ,ah]
    intro hd
    rw [hd,dM,ji] at hb
    omega
  subst hje
  refine G2 aU (by omega) hens ?_
  refine Run.callPure Pg O1 hI (Md _ hdig hlen0 (by rw [NV hens]; omega) hc2 S) fun w' hI=>?_
  obtain ⟨n,hn⟩:∃ n,n=J0 (cut s fr j) 0:=⟨_,rfl⟩
  rw [<- hn]
  refine aq (v:=.int .i64 (n:Int)) rfl ?_
  refine aq (v:=.bool true) rfl ?_
  simp only [<- hn] at hc3 hc4 ⊢
  refine ⟨fun t w'=>t=.bool false/\Inv w [] [.blk b4 (.cells #[.int .i64 0,.int .i64 0,.string ⟨#[]⟩,.slice none 0 0] ac)] S w',?_,?_⟩
  ·refine bX ?_
   refine rpG ?_
   by_cases hfi':i<fr
   ·refine Sa (by omega) ?_
    refine rpG ?_
    refine bo ?_
    have:¬ n=0:=fun h=>hc3 ⟨hfi',h⟩
    rw [aW (by omega)]
    refine rpG ?_
    refine oZ (by omega) ?_
    refine rpG ?_
    exact ⟨rfl,hI⟩
   ·refine oZ (by omega) ?_
    refine rpG ?_
    refine oZ (by omega) ?_
    refine rpG ?_
    exact ⟨rfl,hI⟩
  intro t50 _ _ _ _ _ _ _ _ _ _ _ _ _ _ w'
  rintro ⟨rfl,hI⟩
  refine az (fun hb=>by cases hb) (fun _=>?_)
  refine ⟨fun t w'=>t=.int .i64 (if i<fr then -(n:Int) else n)/\Inv w [] [.blk b4 (.cells #[.int .i64 0,.int .i64 0,.string ⟨#[]⟩,.slice none 0 0] ac)] S w',?_,?_⟩
  ·refine dC ?_
   refine aI (fun hb=>?_) (fun hb=>?_)
   ·refine ZZ (by omega) ?_
    exact ⟨by rw [ai (by omega)],hI⟩
   ·exact ⟨by rw [ah (by omega)],hI⟩
  intro t8 _ _ _ _ _ w'
  rintro ⟨rfl,hI⟩
  refine Run.callPure xm xS hI (o6 _ S) fun w' hI=>?_
  refine aA hI 0 rfl ad rfl rfl (by simp [Value.oneCell']) fun w' hI=>?_
  refine bC hI 0 ad rfl rfl ?_
  exact done hI rfl
end
theorem RdSl.some1 {α:Type} {S:af} {k:Nat} {R:List Value->α->Prop} {v:Value} {xs:List α} (h:RdSl S k R v xs) (h0:0<xs.length):∃ b o cap,v=.slice (some ⟨b,o,none⟩) xs.length cap:=by
 obtain ⟨b,o,cap,c,E,fz,e,_,_⟩:=h.at_ h0
 exact ⟨b,o,cap,e⟩
theorem OW (s:Bs) (n e:Nat):EE s (n+1) e=if sml s e=true then EE s n (e+1) else e:=rfl
def PS (o:Option (Bs × Nat)):Value:=match o with
 | none=>.tuple #[.string ⟨#[]⟩,.int .i64 (-1)]
 | some (n,e)=>.tuple #[.string (st n),.int .i64 (e:Int)]
theorem Ss (s:Bs) (i:Nat) {j:Nat} (h:j<signs.length) (b:Bs):jR s i (signs.drop j) b=jR s i (signs.drop (j+1)) (if decide (i+signs[j].size<=s.length)=true/\cut s i (i+signs[j].size)=bs signs[j]/\b.length<signs[j].size then bs signs[j] else b):=by
 rw [cZ h,jR]
theorem Qm:∀ x∈signs,x.size<=3:=by decide
section
attribute [local irreducible] Run CondV aw aN
theorem qM {s:Bs} {i:Nat} (hi:i<s.length) (hs:s.length<=100000) (S:af):Pure Tryz.prog Ri [.string (st s),.int .i64 (i:Int)] S (PS (rz s i)):=by
 intro w hI
 refine D1.2 ?_
 dsimp only[D1,aZ]
 obtain ⟨E,hE⟩:∃ E,E=EE s (s.length - i) i:=⟨_,rfl⟩
 have hnm:rz s i=if i+6<E then none else if i<E then some (cut s i E,E) else if jR s i signs []=[] then none else some (jR s i signs [],i+(jR s i signs []).length):=by
  rw [rz,<- hE]
 refine ⟨fun t w'=>∃ e:Nat,t=.int .i64 (e:Int)/\i<=e/\e<=s.length/\EE s (s.length - e) e=E/\Inv w [] [] S w',fun t _=>s.length - (intOf t).toNat,⟨i,rfl,aR _,by omega,hE.symm,hI⟩,?_⟩
 intro t6 _ _ _ _ _ w'
 rintro ⟨e,rfl,he1,he2,he3,hI⟩
 refine Run.callPure yI yT hI (rv s e S) fun w' hI=>?_
 refine az (fun hb=>?_) (fun hb=>?_)
 ·have hlt:=Gy hb
  refine bq (by omega) ?_
  refine ⟨⟨e+1,rfl,by omega,by omega,?_,hI⟩,by simp [intOf]; omega⟩
  rw [<- he3,show s.length - e=(s.length - (e+1))+1 by omega,OW,ai hb]
 have heE:e=E:=by
  rw [<- he3]
  by_cases h:e=s.length
  ·rw [h,eD,EE]
  ·rw [show s.length - e=(s.length - (e+1))+1 by omega,OW,ah (by rw [hb]; decide)]
 subst heE
 refine bq (by omega) ?_
 refine dC ?_
 refine aI (fun hb=>done hI (by rw [hnm,ai (by omega)]; rfl)) (fun hb=>?_)
 rw [ah (by omega)] at hnm
 refine dC ?_
 refine aI (fun hb=>?_) (fun hb=>?_)
 ·refine G2 aU (by omega) (by omega) ?_
  exact done hI (by rw [hnm,ai (by omega)]; rfl)
 rw [ah (by omega)] at hnm
 refine Run.call0 Aj yv hI (wM S) fun v I' S1 w'=>?_
 rintro ⟨rfl,hle,hr⟩ _ hI
 obtain ⟨b,o,cap,rfl⟩:=RdSl.some1 hr (by decide)
 refine ⟨fun t u w'=>∃ (j:Nat) (best:Bs),j<=signs.length/\t=.int .i64 (j:Int)/\u=.string (st best)/\best.length<=3/\jR s i (signs.drop j) best=jR s i signs []/\Inv w [] [] S1 w',fun t _ _=>signs.length - (intOf t).toNat,
  ⟨0,[],be _,rfl,rfl,by simp,rfl,hI.nil⟩,?_⟩
 intro t9 _ _ t7 _ _ _ _ t65 t64 t63 t62 t61 t60 t59 t58 t57 t56 t55 t54 t53 t52 t51 t50 t49 t48 t47 t46 t45 t44 t43 t42 t41 _ _ _ _ _ _ _ _ _ _ w'
 rintro ⟨j,best,hj0,rfl,rfl,hbl,hbest,hI⟩
 have h15:signs.length=15:=rfl
 refine aC hr cH ?_
 refine bF ?_
 refine aI (fun hji=>?_) (fun hji=>?_)
 ·have hj:j<signs.length:=by omega
  obtain ⟨x,hx⟩:∃ x,x=signs[j]:=⟨_,rfl⟩
  have hx3:x.size<=3:=by rw [hx]; exact Qm _ (bA hj)
  obtain ⟨b',o',cap',c,E',fz,hsl,hS,hR⟩:=hr.at_ hj
  cases hsl
  have hcx:c[o+j * 1]?=some (.string x):=by rw [hx]; exact aK hR 0 _ rfl
  rw [Ss s i hj,<- hx] at hbest
  refine ⟨fun u w'=>∃ best',u=.string (st best')/\best'.length<=3/\jR s i (signs.drop (j+1)) best'=jR s i signs []/\Inv w [] [] S1 w',?_,?_⟩
  ·refine aD cH hj ?_
   refine cw aQ ((hI.cellS hS).trans hcx) ?_
   refine lj aU ?_
   by_cases hlen:i+x.size<=s.length
   ·cases hq:decide (st (cut s i (i+x.size))=x)
    ·skip
     refine ⟨fun D KZ Ok DW DG El Ba CE CD C6 Ei K9 Gu GP C9 DN C5 Ai rY rx Az Eg DK Em Dd x1 w_=>Fx D 0 [x1=.int .i64 (i:Int),Dd=.int .i64 (x.size:Int),Em=.int .i64 ((i+x.size:Nat):Int),DK=.string (st s),Eg=.int .i64 (s.length:Int),Az=.bool true,rx=.bool true,rY=.string (st s),Ai=.int .i64 (i:Int),C5=.int .i64 (i:Int),DN=.int .i64 (x.size:Int),C9=.int .i64 ((i+x.size:Nat):Int),GP=.string (st (cut s i (i+x.size))),Gu=.slice (some ⟨b,o,none⟩) signs.length cap,K9=.int .i64 (j:Int),Ei=.pointer (some ⟨b,o+j * 1,none⟩),C6=.string x,CD=.bool false,CE=.bool false,Ba=.bool false,El=undef,DG=undef,DW=undef,Ok=undef,KZ=.bool false]/\Inv w [] [] S1 w_,⟨Fx.nil _ _,hI.draw⟩,⟨?_,?_,?_,?_,?_,?_,?_,?_,?_,?_,?_,?_,?_,?_,?_,?_,?_,?_,?_,?_,?_,?_,?_,?_,?_,trivial⟩,?_⟩
     all_goals (intro D bP; intros; rename_i KZ Ok DW DG El Ba CE CD C6 Ei K9 Gu GP C9 DN C5 Ai rY rx Az Eg DK Em Dd x1 w_ hA_; have hF_:=hA_.1; obtain ⟨⟨cm,cj,cd,ci,bT,ct,bZ,cR,dq,er,co,cG,dJ,fl,fS,gD,kF,nn,qL,jl,uE,tZ,ti,vx,HJ,_⟩,hI⟩:=hA_)
     ·exact ⟨hF_.set 0 rfl,hI⟩
     ·exact ⟨hF_.set 1 rfl,hI⟩
     ·obtain rfl:=cm ‹_›
      obtain rfl:=cj ‹_›
      refine bq (by omega) ?_
      exact ⟨hF_.set 2 rfl,hI⟩
     ·exact ⟨hF_.set 3 rfl,hI⟩
     ·obtain rfl:=ci ‹_›
      refine fR aU ?_
      exact ⟨hF_.set 4 rfl,hI⟩
     ·obtain rfl:=cd ‹_›
      obtain rfl:=bT ‹_›
      refine Fu (by omega) ?_
      exact ⟨hF_.set 5 rfl,hI⟩
     ·obtain rfl:=ct ‹_›
      exact ⟨hF_.set 6 rfl,hI⟩
     ·obtain rfl:=bZ ‹_›
      refine bV ?_
      exact ⟨hF_.set 7 rfl,hI⟩
     ·obtain rfl:=bZ ‹_›
      refine bV ?_
      exact ⟨hF_.set 8 rfl,hI⟩
     ·obtain rfl:=bZ ‹_›
      refine bV ?_
      exact ⟨hF_.set 9 rfl,hI⟩
     ·obtain rfl:=bZ ‹_›
      refine bV ?_
      exact ⟨hF_.set 10 rfl,hI⟩
     ·obtain rfl:=er ‹_›
      obtain rfl:=co ‹_›
      obtain rfl:=bZ ‹_›
      refine bV ?_; refine bq (by omega) ?_
      exact ⟨hF_.set 11 rfl,hI⟩
     ·obtain rfl:=cR ‹_›
      obtain rfl:=dq ‹_›
      obtain rfl:=cG ‹_›
      obtain rfl:=bZ ‹_›
      refine bV ?_; refine G2 aU (by omega) (by omega) ?_
      exact ⟨hF_.set 12 rfl,hI⟩
     ·obtain rfl:=bZ ‹_›
      refine bV ?_
      exact ⟨hF_.set 13 rfl,hI⟩
     ·obtain rfl:=bZ ‹_›
      refine bV ?_
      exact ⟨hF_.set 14 rfl,hI⟩
     ·obtain rfl:=fl ‹_›
      obtain rfl:=fS ‹_›
      obtain rfl:=bZ ‹_›
      refine bV ?_; refine aD cH hj ?_
      exact ⟨hF_.set 15 rfl,hI⟩
     ·obtain rfl:=gD ‹_›
      obtain rfl:=bZ ‹_›
      refine bV ?_; refine cw aQ ((hI.cellS hS).trans hcx) ?_
      exact ⟨hF_.set 16 rfl,hI⟩
     ·obtain rfl:=dJ ‹_›
      obtain rfl:=kF ‹_›
      obtain rfl:=bZ ‹_›
      refine bV ?_; refine bO ?_; rw [hq]
      exact ⟨hF_.set 17 rfl,hI⟩
     ·obtain rfl:=bZ ‹_›
      obtain rfl:=nn ‹_›
      refine Fk ?_
      exact ⟨hF_.set 18 rfl,hI⟩
     ·obtain rfl:=qL ‹_›
      exact ⟨hF_.set 19 rfl,hI⟩
     ·obtain rfl:=jl ‹_›
      refine dG (c:=false) (b:=true) (by decide) ?_
      exact ⟨hF_.set 20 rfl,hI⟩
     ·obtain rfl:=jl ‹_›
      refine dG (c:=false) (b:=true) (by decide) ?_
      exact ⟨hF_.set 21 rfl,hI⟩
     ·obtain rfl:=tZ ‹_›
      obtain rfl:=jl ‹_›
      refine dG (c:=false) (b:=true) (by decide) ?_
      exact ⟨hF_.set 22 rfl,hI⟩
     ·obtain rfl:=uE ‹_›
      obtain rfl:=ti ‹_›
      obtain rfl:=jl ‹_›
      refine dG (c:=false) (b:=true) (by decide) ?_
      exact ⟨hF_.set 23 rfl,hI⟩
     ·obtain rfl:=jl ‹_›
      obtain rfl:=vx ‹_›
      refine uV ?_
      exact ⟨hF_.set 24 rfl,hI⟩
     obtain ⟨rfl,rfl,rfl,rfl,rfl,rfl,rfl,rfl,rfl,rfl,rfl,rfl,rfl,rfl,rfl,rfl,rfl,rfl,rfl,rfl,rfl,rfl,rfl,rfl,rfl,_⟩:=hF_.all
     clear hF_ cm cj cd ci bT ct bZ cR dq er co cG dJ fl fS gD kF nn qL jl uE tZ ti vx HJ
     refine az (fun hb=>by cases hb) (fun _=>?_)
     refine ⟨best,rfl,hbl,?_,hI⟩
     rw [ah] at hbest
     ·exact hbest
     ·rintro ⟨_,h2,_⟩
      rw [ji] at hq
      exact hq (by rw [h2])
    ·rw [bk] at hq
     have hq':=hq
     have hq:decide (st (cut s i (i+x.size))=x)=true:=aM hq'
     skip
     refine ⟨fun D KZ Ok DW DG El Ba CE CD C6 Ei K9 Gu GP C9 DN C5 Ai rY rx Az Eg DK Em Dd x1 w_=>Fx D 0 [x1=.int .i64 (i:Int),Dd=.int .i64 (x.size:Int),Em=.int .i64 ((i+x.size:Nat):Int),DK=.string (st s),Eg=.int .i64 (s.length:Int),Az=.bool true,rx=.bool true,rY=.string (st s),Ai=.int .i64 (i:Int),C5=.int .i64 (i:Int),DN=.int .i64 (x.size:Int),C9=.int .i64 ((i+x.size:Nat):Int),GP=.string (st (cut s i (i+x.size))),Gu=.slice (some ⟨b,o,none⟩) signs.length cap,K9=.int .i64 (j:Int),Ei=.pointer (some ⟨b,o+j * 1,none⟩),C6=.string x,CD=.bool true,CE=.bool true,Ba=.bool true,El=.int .i64 (x.size:Int),DG=.string (st best),DW=.int .i64 (best.length:Int),Ok=.bool (decide ((best.length:Int)<(x.size:Int))),KZ=.bool (decide ((best.length:Int)<(x.size:Int)))]/\Inv w [] [] S1 w_,⟨Fx.nil _ _,hI.draw⟩,⟨?_,?_,?_,?_,?_,?_,?_,?_,?_,?_,?_,?_,?_,?_,?_,?_,?_,?_,?_,?_,?_,?_,?_,?_,?_,trivial⟩,?_⟩
     all_goals (intro D bP; intros; rename_i KZ Ok DW DG El Ba CE CD C6 Ei K9 Gu GP C9 DN C5 Ai rY rx Az Eg DK Em Dd x1 w_ hA_; have hF_:=hA_.1; obtain ⟨⟨cm,cj,cd,ci,bT,ct,bZ,cR,dq,er,co,cG,dJ,fl,fS,gD,kF,nn,qL,jl,uE,tZ,ti,vx,HJ,_⟩,hI⟩:=hA_)
     ·exact ⟨hF_.set 0 rfl,hI⟩
     ·exact ⟨hF_.set 1 rfl,hI⟩
     ·obtain rfl:=cm ‹_›
      obtain rfl:=cj ‹_›
      refine bq (by omega) ?_
      exact ⟨hF_.set 2 rfl,hI⟩
     ·exact ⟨hF_.set 3 rfl,hI⟩
     ·obtain rfl:=ci ‹_›
      refine fR aU ?_
      exact ⟨hF_.set 4 rfl,hI⟩
     ·obtain rfl:=cd ‹_›
      obtain rfl:=bT ‹_›
      refine Fu (by omega) ?_
      exact ⟨hF_.set 5 rfl,hI⟩
     ·obtain rfl:=ct ‹_›
      exact ⟨hF_.set 6 rfl,hI⟩
     ·obtain rfl:=bZ ‹_›
      refine bV ?_
      exact ⟨hF_.set 7 rfl,hI⟩
     ·obtain rfl:=bZ ‹_›
      refine bV ?_
      exact ⟨hF_.set 8 rfl,hI⟩
     ·obtain rfl:=bZ ‹_›
      refine bV ?_
      exact ⟨hF_.set 9 rfl,hI⟩
     ·obtain rfl:=bZ ‹_›
      refine bV ?_
      exact ⟨hF_.set 10 rfl,hI⟩
     ·obtain rfl:=er ‹_›
      obtain rfl:=co ‹_›
      obtain rfl:=bZ ‹_›
      refine bV ?_; refine bq (by omega) ?_
      exact ⟨hF_.set 11 rfl,hI⟩
     ·obtain rfl:=cR ‹_›
      obtain rfl:=dq ‹_›
      obtain rfl:=cG ‹_›
      obtain rfl:=bZ ‹_›
      refine bV ?_; refine G2 aU (by omega) (by omega) ?_
      exact ⟨hF_.set 12 rfl,hI⟩
     ·obtain rfl:=bZ ‹_›
      refine bV ?_
      exact ⟨hF_.set 13 rfl,hI⟩
     ·obtain rfl:=bZ ‹_›
      refine bV ?_
      exact ⟨hF_.set 14 rfl,hI⟩
     ·obtain rfl:=fl ‹_›
      obtain rfl:=fS ‹_›
      obtain rfl:=bZ ‹_›
      refine bV ?_; refine aD cH hj ?_
      exact ⟨hF_.set 15 rfl,hI⟩
     ·obtain rfl:=gD ‹_›
      obtain rfl:=bZ ‹_›
      refine bV ?_; refine cw aQ ((hI.cellS hS).trans hcx) ?_
      exact ⟨hF_.set 16 rfl,hI⟩
     ·obtain rfl:=dJ ‹_›
      obtain rfl:=kF ‹_›
      obtain rfl:=bZ ‹_›
      refine bV ?_; refine bO ?_; rw [hq]
      exact ⟨hF_.set 17 rfl,hI⟩
     ·obtain rfl:=bZ ‹_›
      obtain rfl:=nn ‹_›
      refine Fk ?_
      exact ⟨hF_.set 18 rfl,hI⟩
     ·obtain rfl:=qL ‹_›
      exact ⟨hF_.set 19 rfl,hI⟩
     ·obtain rfl:=jl ‹_›
      refine bV ?_
      exact ⟨hF_.set 20 rfl,hI⟩
     ·obtain rfl:=jl ‹_›
      refine bV ?_
      exact ⟨hF_.set 21 rfl,hI⟩
     ·obtain rfl:=tZ ‹_›
      obtain rfl:=jl ‹_›
      refine bV ?_; refine fR aU ?_
      exact ⟨hF_.set 22 rfl,hI⟩
     ·obtain rfl:=uE ‹_›
      obtain rfl:=ti ‹_›
      obtain rfl:=jl ‹_›
      refine bV ?_; refine dC ?_
      exact ⟨hF_.set 23 rfl,hI⟩
     ·obtain rfl:=jl ‹_›
      obtain rfl:=vx ‹_›
      refine Fk ?_
      exact ⟨hF_.set 24 rfl,hI⟩
     obtain ⟨rfl,rfl,rfl,rfl,rfl,rfl,rfl,rfl,rfl,rfl,rfl,rfl,rfl,rfl,rfl,rfl,rfl,rfl,rfl,rfl,rfl,rfl,rfl,rfl,rfl,_⟩:=hF_.all
     clear hF_ cm cj cd ci bT ct bZ cR dq er co cG dJ fl fS gD kF nn qL jl uE tZ ti vx HJ
     have hcut:cut s i (i+x.size)=bs x:=by rw [<- Kq (cut s i (i+x.size)),hq']
     refine aI (fun hb=>?_) (fun hb=>?_)
     ·refine aD cH hj ?_
      refine cw aQ ((hI.cellS hS).trans hcx) ?_
      refine ⟨bs x,rfl,by rw [<- hcut,NV hlen]; omega,?_,hI⟩
      rw [ai ⟨aM hlen,hcut,by omega⟩] at hbest
      exact hbest
     ·refine ⟨best,rfl,hbl,?_,hI⟩
      rw [ah] at hbest
      ·exact hbest
      ·rintro ⟨_,_,h3⟩
       omega
   ·skip
    refine ⟨fun D KZ Ok DW DG El Ba CE CD C6 Ei K9 Gu GP C9 DN C5 Ai rY rx Az Eg DK Em Dd x1 w_=>Fx D 0 [x1=.int .i64 (i:Int),Dd=.int .i64 (x.size:Int),Em=.int .i64 ((i+x.size:Nat):Int),DK=.string (st s),Eg=.int .i64 (s.length:Int),Az=.bool false,rx=.bool false,rY=undef,Ai=undef,C5=undef,DN=undef,C9=undef,GP=undef,Gu=undef,K9=undef,Ei=undef,C6=undef,CD=undef,CE=.bool false,Ba=.bool false,El=undef,DG=undef,DW=undef,Ok=undef,KZ=.bool false]/\Inv w [] [] S1 w_,⟨Fx.nil _ _,hI.draw⟩,⟨?_,?_,?_,?_,?_,?_,?_,?_,?_,?_,?_,?_,?_,?_,?_,?_,?_,?_,?_,?_,?_,?_,?_,?_,?_,trivial⟩,?_⟩
    all_goals (intro D bP; intros; rename_i KZ Ok DW DG El Ba CE CD C6 Ei K9 Gu GP C9 DN C5 Ai rY rx Az Eg DK Em Dd x1 w_ hA_; have hF_:=hA_.1; obtain ⟨⟨cm,cj,cd,ci,bT,ct,bZ,cR,dq,er,co,cG,dJ,fl,fS,gD,kF,nn,qL,jl,uE,tZ,ti,vx,HJ,_⟩,hI⟩:=hA_)
    ·exact ⟨hF_.set 0 rfl,hI⟩
    ·exact ⟨hF_.set 1 rfl,hI⟩
    ·obtain rfl:=cm ‹_›
     obtain rfl:=cj ‹_›
     refine bq (by omega) ?_
     exact ⟨hF_.set 2 rfl,hI⟩
    ·exact ⟨hF_.set 3 rfl,hI⟩
    ·obtain rfl:=ci ‹_›
     refine fR aU ?_
     exact ⟨hF_.set 4 rfl,hI⟩
    ·obtain rfl:=cd ‹_›
     obtain rfl:=bT ‹_›
     refine Wu (by omega) ?_
     exact ⟨hF_.set 5 rfl,hI⟩
    ·obtain rfl:=ct ‹_›
     exact ⟨hF_.set 6 rfl,hI⟩
    ·obtain rfl:=bZ ‹_›
     refine dG (c:=false) (b:=true) (by decide) ?_
     exact ⟨hF_.set 7 rfl,hI⟩
    ·obtain rfl:=bZ ‹_›
     refine dG (c:=false) (b:=true) (by decide) ?_
     exact ⟨hF_.set 8 rfl,hI⟩
    ·obtain rfl:=bZ ‹_›
     refine dG (c:=false) (b:=true) (by decide) ?_
     exact ⟨hF_.set 9 rfl,hI⟩
    ·obtain rfl:=bZ ‹_›
     refine dG (c:=false) (b:=true) (by decide) ?_
     exact ⟨hF_.set 10 rfl,hI⟩
    ·obtain rfl:=er ‹_›
     obtain rfl:=co ‹_›
     obtain rfl:=bZ ‹_›
     refine dG (c:=false) (b:=true) (by decide) ?_
     exact ⟨hF_.set 11 rfl,hI⟩
    ·obtain rfl:=cR ‹_›
     obtain rfl:=dq ‹_›
     obtain rfl:=cG ‹_›
     obtain rfl:=bZ ‹_›
     refine dG (c:=false) (b:=true) (by decide) ?_
     exact ⟨hF_.set 12 rfl,hI⟩
    ·obtain rfl:=bZ ‹_›
     refine dG (c:=false) (b:=true) (by decide) ?_
     exact ⟨hF_.set 13 rfl,hI⟩
    ·obtain rfl:=bZ ‹_›
     refine dG (c:=false) (b:=true) (by decide) ?_
     exact ⟨hF_.set 14 rfl,hI⟩
    ·obtain rfl:=fl ‹_›
     obtain rfl:=fS ‹_›
     obtain rfl:=bZ ‹_›
     refine dG (c:=false) (b:=true) (by decide) ?_
     exact ⟨hF_.set 15 rfl,hI⟩
    ·obtain rfl:=gD ‹_›
     obtain rfl:=bZ ‹_›
     refine dG (c:=false) (b:=true) (by decide) ?_
     exact ⟨hF_.set 16 rfl,hI⟩
    ·obtain rfl:=dJ ‹_›
     obtain rfl:=kF ‹_›
     obtain rfl:=bZ ‹_›
     refine dG (c:=false) (b:=true) (by decide) ?_
     exact ⟨hF_.set 17 rfl,hI⟩
    ·obtain rfl:=bZ ‹_›
     obtain rfl:=nn ‹_›
     refine uV ?_
     exact ⟨hF_.set 18 rfl,hI⟩
    ·obtain rfl:=qL ‹_›
     exact ⟨hF_.set 19 rfl,hI⟩
    ·obtain rfl:=jl ‹_›
     refine dG (c:=false) (b:=true) (by decide) ?_
     exact ⟨hF_.set 20 rfl,hI⟩
    ·obtain rfl:=jl ‹_›
     refine dG (c:=false) (b:=true) (by decide) ?_
     exact ⟨hF_.set 21 rfl,hI⟩
    ·obtain rfl:=tZ ‹_›
     obtain rfl:=jl ‹_›
     refine dG (c:=false) (b:=true) (by decide) ?_
     exact ⟨hF_.set 22 rfl,hI⟩
    ·obtain rfl:=uE ‹_›
     obtain rfl:=ti ‹_›
     obtain rfl:=jl ‹_›
     refine dG (c:=false) (b:=true) (by decide) ?_
     exact ⟨hF_.set 23 rfl,hI⟩
    ·obtain rfl:=jl ‹_›
     obtain rfl:=vx ‹_›
     refine uV ?_
     exact ⟨hF_.set 24 rfl,hI⟩
    obtain ⟨rfl,rfl,rfl,rfl,rfl,rfl,rfl,rfl,rfl,rfl,rfl,rfl,rfl,rfl,rfl,rfl,rfl,rfl,rfl,rfl,rfl,rfl,rfl,rfl,rfl,_⟩:=hF_.all
    clear hF_ cm cj cd ci bT ct bZ cR dq er co cG dJ fl fS gD kF nn qL jl uE tZ ti vx HJ
    refine az (fun hb=>by cases hb) (fun _=>?_)
    refine ⟨best,rfl,hbl,?_,hI⟩
    rw [ah] at hbest
    ·exact hbest
    ·rintro ⟨h1,_⟩
     rw [bk] at h1
     exact hlen h1
  intro t7 _ _ _ _ _ _ _ _ _ _ _ _ _ _ _ _ _ _ _ _ _ _ _ _ _ _ _ _ _ _ _ _ _ _ _ w'
  rintro ⟨best',rfl,hbl',hb',hI⟩
  refine bq (by omega) ?_
  exact ⟨⟨j+1,best',hj,rfl,rfl,hbl',hb',hI⟩,by simp [intOf]; omega⟩
 ·have:j=signs.length:=by omega
  subst this
  rw [dL,jR] at hbest
  rw [<- hbest] at hnm
  refine bO ?_
  refine aI (fun hb=>?_) (fun hb=>?_)
  ·have:best=[]:=by rw [<- Kq best,hb]
   exact jz hI hle (by rw [hnm,ai this]; rfl)
  ·have:¬ best=[]:=fun h=>hb (by rw [h])
   refine fR aU ?_
   refine bq (by omega) ?_
   exact jz hI hle (by rw [hnm,ah this]; rfl)
end
theorem Bj (s:Bs) (i:Nat):∀ (l:List ByteArray) (b:Bs),(∀ x∈l,x.size<=3)->b.length<=3->i+b.length<=s.length->i+(jR s i l b).length<=s.length/\(jR s i l b).length<=3
 | [],b,_,h2,h3=>⟨h3,h2⟩
 | x::l,b,h1,h2,h3=>by
  rw [jR]
  have hx:(bs x).length=x.size:=IV
  split
  ·rename_i h
   exact Bj s i l _ (fun y hy=>h1 y (aS _ hy)) (by rw [hx]; exact h1 x (aT ..)) (by rw [hx]; exact of_decide_eq_true h.1)
  ·exact Bj s i l _ (fun y hy=>h1 y (aS _ hy)) h2 h3
theorem TP (s:Bs):∀ (n e:Nat),e<=EE s n e/\EE s n e<=e+n
 | 0,e=>by simp [EE]
 | n+1,e=>by
  rw [EE]
  split
  ·have:=TP s n (e+1); omega
  ·omega
theorem pO {s:Bs} {i:Nat} {n:Bs} {e:Nat} (hi:i<s.length) (h:rz s i=some (n,e)):i<e/\e<=s.length/\n.length<=6/\n≠[]:=by
 have hl:=TP s (s.length - i) i
 have hb:=Bj s i signs [] Qm (by simp) (by simpa using Nat.le_of_lt hi)
 unfold rz at h
 simp only [] at h
 split at h
 ·cases h
 ·split at h
  ·simp only [bg,cT] at h
   obtain ⟨rfl,rfl⟩:=h
   rename_i h1 h2
   have hc:=NV (s:=s) (a:=i) (b:=EE s (s.length - i) i) (by omega)
   refine ⟨h2,by omega,by omega,fun h=>?_⟩
   rw [h] at hc
   simp at hc
   omega
  ·split at h
   ·cases h
   ·simp only [bg,cT] at h
    obtain ⟨rfl,rfl⟩:=h
    rename_i h3
    have:0<(jR s i signs []).length:=by
     cases he:jR s i signs [] with
     | nil=>exact absurd he h3
     | cons a l=>simp
    exact ⟨by omega,by omega,by omega,h3⟩
def opV (o:Option (Bs × Nat)) (i:Nat):Value:=match o with
 | none=>.tuple #[.string ⟨#[]⟩,.int .i64 (i:Int)]
 | some (n,e)=>.tuple #[.string (st n),.int .i64 (e:Int)]
theorem Xy {s:Bs} {i:Nat} {n:Bs} {e:Nat} (h:opF s i=some (n,e)):i<e/\e<=s.length/\n.length<=6/\n≠[]:=by
 unfold opF at h
 obtain ⟨fr,hfr⟩:∃ fr,fr=if sgn s i 32=true then i+1 else i:=⟨_,rfl⟩
 simp only [<- hfr] at h
 have hfi:i<=fr:=by rw [hfr]; split <;> omega
 split at h
 ·cases h
 rename_i hlt
 split at h
 ·cases h
 rename_i nm nx hnm
 obtain ⟨h1,h2,h3,h4⟩:=pO (by omega) hnm
 split at h
 ·cases h
 rename_i hc
 simp only [not_or,not_and,Wf] at hc
 simp only [bg,cT] at h
 obtain ⟨rfl,rfl⟩:=h
 refine ⟨by split <;> omega,?_,h3,h4⟩
 split
 ·rename_i hw
  have:=g8 (hc.2.2 hw)
  omega
 ·exact h2
section
attribute [local irreducible] Run CondV aw aN
theorem SK {s:Bs} {i:Nat} (hs:s.length<=100000) (hi:i<=s.length) (S:af):Pure Tryz.prog Yh [.string (st s),.int .i64 (i:Int)] S (opV (opF s i) i):=by
 intro w hI
 refine KC.2 ?_
 dsimp only[KC,aZ]
 obtain ⟨fr,hfr⟩:∃ fr,fr=if sgn s i 32=true then i+1 else i:=⟨_,rfl⟩
 have hfi:i<=fr/\fr<=i+1:=by rw [hfr]; split <;> omega
 obtain ⟨r,hr⟩:∃ r,r=opF s i:=⟨_,rfl⟩
 rw [<- hr]
 unfold opF at hr
 simp only [<- hfr] at hr
 refine ⟨fun t w'=>t=.int .i64 (fr:Int)/\Inv w [] [] S w',?_,?_⟩
 ·refine Run.callPure cP cQ hI (cC s i 32 S) fun w' hI=>?_
  refine az (fun hb=>?_) (fun hb=>?_)
  ·refine bq (by omega) ?_
   rw [ai hb] at hfr
   exact ⟨by rw [hfr]; congr 1,hI⟩
  ·rw [ah (by rw [hb]; decide)] at hfr
   exact ⟨by rw [hfr],hI⟩
 intro t6 _ _ _ _ _ w'
 rintro ⟨rfl,hI⟩
 refine fR aU ?_
 refine mY ?_
 refine aI (fun hb=>?_) (fun hb=>?_)
 ·rw [ai (by omega)] at hr
  exact done hI (by rw [hr]; rfl)
 rw [ah (by omega)] at hr
 refine Run.callPure uT uf hI (qM (by omega) hs S) fun w' hI=>?_
 cases hnm:rz s fr with
 | none=>
  rw [hnm] at hr
  simp only [] at hr
  simp only [PS]
  refine aq rfl ?_
  refine aq rfl ?_
  refine ⟨fun t w'=>t=.bool true/\Inv w [] [] S w',?_,?_⟩
  ·refine Gc (by omega) ?_
   refine rpG ?_
   exact ⟨rfl,hI⟩
  intro t33 _ _ _ _ _ _ w'
  rintro ⟨rfl,hI⟩
  exact az (fun _=>done hI (by rw [hr]; rfl)) (fun hb=>by cases hb)
 | some q=>
  obtain ⟨nm,nx⟩:=q
  rw [hnm] at hr
  simp only [] at hr
  obtain ⟨h1,h2,h3,h4⟩:=pO (by omega) hnm
  simp only [PS]
  refine aq (v:=.string (st nm)) rfl ?_
  refine aq (v:=.int .i64 (nx:Int)) rfl ?_
  refine ⟨fun t w'=>t=.bool (decide (cM (st nm)=0))/\Inv w [] [] S w',?_,?_⟩
  ·refine eT (by omega) ?_
   refine rpG ?_
   refine Run.callPure ge gi hI (eM _ S) fun w' hI=>?_
   refine bo ?_
   refine rpG ?_
   exact ⟨rfl,hI⟩
  intro t33 _ _ _ _ _ _ w'
  rintro ⟨rfl,hI⟩
  refine aI (fun hb=>?_) (fun hb=>?_)
  ·rw [ai (.inl hb)] at hr
   exact done hI (by rw [hr]; rfl)
  obtain ⟨word,hword⟩:∃ word,word=(decide (nm=[105,115]) || decide (nm=[109,111,100])):=⟨_,rfl⟩
  rw [<- hword] at hr
  refine ⟨fun t w'=>t=.bool word/\Inv w [] [] S w',?_,?_⟩
  ·refine Hf (b:=[105,115]) ?_
   cases h5:decide (nm=[105,115])
   ·refine rpG ?_
    refine Hf (b:=[109,111,100]) ?_
    refine rpG ?_
    exact ⟨by rw [hword,h5,fL],hI⟩
   ·refine rpG ?_
    exact ⟨by rw [hword,h5,vJ],hI⟩
  intro t9 _ _ _ _ _ _ w'
  rintro ⟨rfl,hI⟩
  refine ⟨fun t w'=>t=.bool (decide (word≠decide (i<fr)) || (word && !sgn s nx 32))/\Inv w [] [] S w',?_,?_⟩
  ·refine dC ?_
   refine WI Fo ?_
   have e1:decide ((i:Int)<(fr:Int))=decide (i<fr):=by rw [fK]; omega
   rw [e1]
   cases h6:decide (i<fr) <;> cases word
   ·refine rpG ?_
    exact ⟨by rfl,hI⟩
   ·refine rpG ?_
    exact ⟨by rfl,hI⟩
   ·refine rpG ?_
    exact ⟨by rfl,hI⟩
   ·refine rpG ?_
    refine Run.callPure cP cQ hI (cC s nx 32 S) fun w' hI=>?_
    refine bX ?_
    refine rpG ?_
    exact ⟨by simp,hI⟩
  intro t54 _ _ _ _ _ _ _ _ _ _ _ _ _ w'
  rintro ⟨rfl,hI⟩
  refine az (fun hb'=>?_) (fun hb'=>?_)
  ·rw [ai] at hr
   ·exact done hI (by rw [hr]; rfl)
   ·rw [jC,bk,bw,js] at hb'
    exact .inr hb'
  ·rw [ah] at hr
   ·refine ⟨fun t w'=>t=.int .i64 ((if word=true then nx+1 else nx:Nat):Int)/\Inv w [] [] S w',?_,?_⟩
    ·refine az (fun hw=>?_) (fun hw=>?_)
     ·refine bq (by omega) ?_
      exact ⟨by rw [ai hw]; congr 1,hI⟩
     ·exact ⟨by rw [ah (by rw [hw]; decide)],hI⟩
    intro t8 _ _ _ w'
    rintro ⟨rfl,hI⟩
    exact done hI (by rw [hr]; rfl)
   ·rw [Qw,ji] at hb'
    rintro (h|h|⟨h,h'⟩)
    ·exact hb h
    ·exact hb'.1 h
    ·rw [h,h'] at hb'
     simp at hb'
end
end Go.Proofs.YtgllldjiaglkcaaGreatDoor
