/- Bytes, numbers, names and operators in texts: spec.l1Sign and its kin. (printed by gen_byt.py) -/
import Derived.Test.YtbocelianhcfmaaGreatDoorZEg4
import Derived.Test.YtbocelianhcfmaaGreatDoorZEgF
import Derived.Test.YtbocelianhcfmaaGreatDoorZEg1
namespace Go.Proofs.YtbocelianhcfmaaGreatDoor
section
open Go Go.RowKit
theorem jE {s:Bs} {i:Nat} (h:i<s.length) (c:Nat):sgn s i c=decide (s[i].toNat=c):=by simp [sgn,List.getElem?_eq_getElem h]
theorem LN {s:Bs} {i:Nat} (h:¬ i<s.length) (c:Nat):sgn s i c=false:=by simp [sgn,List.getElem?_eq_none (Nat.le_of_not_lt h)]
theorem me {s:Bs} {i:Nat} (h:i<s.length) (a b:Nat):btw s i a b=(decide (a<=s[i].toNat) && decide (s[i].toNat<=b)):=by simp [btw,List.getElem?_eq_getElem h]
theorem G0 {s:Bs} {i:Nat} (h:¬ i<s.length) (a b:Nat):btw s i a b=false:=by simp [btw,List.getElem?_eq_none (Nat.le_of_not_lt h)]
theorem yR {s:Bs} {i a b:Nat} (h:btw s i a b=true):i<s.length:=by
 rcases Nat.lt_or_ge i s.length with h1|h1
 ·exact h1
 ·rw [G0 (by omega)] at h; cases h
theorem gd {s:Bs} {i c:Nat} (h:sgn s i c=true):i<s.length:=by
 rcases Nat.lt_or_ge i s.length with h1|h1
 ·exact h1
 ·rw [LN (by omega)] at h; cases h
section
attribute [local irreducible] Run CondV ar aI
theorem cg (s:Bs) (i c:Nat) (S:ae):Pure Tryz.prog IG [.string (st s),.int .i64 (i:Int),.int .u8 (c:Int)] S (.bool (sgn s i c)):=by
 intro w hI
 refine wV.2 ?_
 dsimp only[wV,cM]
 refine iO (by omega) ?_
 refine rpG ?_
 refine eH aF ?_
 by_cases h:i<s.length
 ·refine yl (by omega) ?_
  refine rpG ?_
  refine dy aF h ?_
  refine bh ?_
  refine rpG ?_
  refine done hI ?_
  rw [jE h]
  congr 1
  rw [decide_eq_decide]
  omega
 ·refine dU (by omega) ?_
  refine rpG ?_
  exact done hI (by rw [LN h])
theorem fL (s:Bs) (i:Nat) (S:ae):Pure Tryz.prog Gr [.string (st s),.int .i64 (i:Int)] S (.bool (dig s i)):=by
 intro w hI
 refine tD.2 ?_
 dsimp only[tD,aY]
 refine iO (by omega) ?_
 refine rpG ?_
 refine eH aF ?_
 by_cases h:i<s.length
 ·refine yl (by omega) ?_
  refine rpG ?_
  refine dy aF h ?_
  rw [dig,me h]
  by_cases h2:48<=s[i].toNat
  ·refine iO (by omega) ?_
   refine rpG ?_
   refine dy aF h ?_
   refine fi ?_
   refine rpG ?_
   refine done hI ?_
   rw [decide_eq_true h2,Bool.true_and]
   congr 1
   rw [decide_eq_decide]
   omega
  ·refine l5 (by omega) ?_
   refine rpG ?_
   exact done hI (by rw [decide_eq_false h2,Bool.false_and])
 ·refine dU (by omega) ?_
  refine rpG ?_
  exact done hI (by rw [dig,G0 h])
theorem mH (s:Bs) (i:Nat) (S:ae):Pure Tryz.prog FW [.string (st s),.int .i64 (i:Int)] S (.bool (sml s i)):=by
 intro w hI
 refine rI.2 ?_
 dsimp only[rI,aY]
 refine iO (by omega) ?_
 refine rpG ?_
 refine eH aF ?_
 by_cases h:i<s.length
 ·refine yl (by omega) ?_
  refine rpG ?_
  refine dy aF h ?_
  rw [sml,me h]
  by_cases h2:97<=s[i].toNat
  ·refine iO (by omega) ?_
   refine rpG ?_
   refine dy aF h ?_
   refine fi ?_
   refine rpG ?_
   refine done hI ?_
   rw [decide_eq_true h2,Bool.true_and]
   congr 1
   rw [decide_eq_decide]
   omega
  ·refine l5 (by omega) ?_
   refine rpG ?_
   exact done hI (by rw [decide_eq_false h2,Bool.false_and])
 ·refine dU (by omega) ?_
  refine rpG ?_
  exact done hI (by rw [sml,G0 h])
end
theorem Je {s:Bs} {i:Nat} (h:i<s.length):dig s i=true↔48<=s[i].toNat/\s[i].toNat<=57:=by
 rw [dig,me h,Bool.and_eq_true,decide_eq_true_eq,decide_eq_true_eq]
theorem Kq {d:Bs} {j:Nat} (h:j<d.length) (m:Nat):AK (d.drop j) m=AK (d.drop (j+1)) (m * 10+(d[j].toNat - 48)):=by
 rw [List.drop_eq_getElem_cons h,AK]
section
attribute [local irreducible] Run CondV ar aI
theorem Da (d:Bs) (hd:∀ i,i<d.length->dig d i=true) (h0:0<d.length) (h4:d.length<=4) (hz:¬ (sgn d 0 48=true/\1<d.length)) (S:ae) :
  Pure Tryz.prog HH [.string (st d)] S (.tuple #[.int .i64 ((AK d 0:Nat):Int),.bool true]):=by
 intro w hI
 refine xb.2 ?_
 dsimp only[xb,aE]
 have hd0:=(Je h0).1 (hd 0 h0)
 refine ⟨fun t w'=>t=.bool false/\Inv w [] [] S w',?_,?_⟩
 ·refine eH aF ?_
  refine DG (by omega) ?_
  refine rpG ?_
  refine dy (i:=0) aF h0 ?_
  refine cQ (by omega) ?_
  refine rpG ?_
  exact ⟨rfl,hI⟩
 intro t4 _ _ _ _ _ _ _ _ w'
 rintro ⟨rfl,hI⟩
 refine ⟨fun t w'=>t=.string (st d)/\Inv w [] [] S w',?_,?_⟩
 ·exact av (fun hb=>by cases hb) (fun _=>⟨rfl,hI⟩)
 intro t0 _ _ _ w'
 rintro ⟨rfl,hI⟩
 refine ⟨fun t w'=>t=.bool false/\Inv w [] [] S w',?_,?_⟩
 ·refine eH aF ?_
  refine cQ (by omega) ?_
  refine rpG ?_
  refine eH aF ?_
  refine gP (by omega) ?_
  refine rpG ?_
  refine dy (i:=0) aF h0 ?_
  by_cases hs:d[0].toNat=48
  ·refine dx (by omega) ?_
   refine rpG ?_
   refine eH aF ?_
   refine gP (by
    have:¬ 1<d.length:=fun h=>hz ⟨by rw [jE h0,hs]; rfl,h⟩
    omega) ?_
   refine rpG ?_
   exact ⟨rfl,hI⟩
  ·refine cQ (by omega) ?_
   refine rpG ?_
   exact ⟨rfl,hI⟩
 intro t38 _ _ _ _ _ _ _ _ _ _ _ _ _ _ _ _ _ _ _ _ w'
 rintro ⟨rfl,hI⟩
 refine av (fun hb=>by cases hb) (fun _=>?_)
 refine ⟨fun i n w'=>∃ j m:Nat,j<=d.length/\i=.int .i64 j/\n=.int .i64 m/\m<10 ^ j/\AK (d.drop j) m=AK d 0/\Inv w [] [] S w',fun i _ _=>d.length - (intOf i).toNat,
  ⟨0,0,Nat.zero_le _,rfl,rfl,by simp,rfl,hI⟩,?_⟩
 intro t6 _ _ t5 _ _ _ _ _ _ _ _ _ _ _ _ _ _ _ _ _ _ _ _ _ _ _ _ w'
 rintro ⟨j,m,hj,rfl,rfl,hm,hval,hI⟩
 have hp:10 ^ j<=10 ^ 4:=Nat.pow_le_pow_right (by omega) (by omega)
 refine eH aF ?_
 refine bD ?_
 refine aN (fun hji=>?_) (fun hji=>?_)
 ·have hj':j<d.length:=by omega
  have hdj:=(Je hj').1 (hd j hj')
  refine ⟨fun t w'=>t=.bool false/\Inv w [] [] S w',?_,?_⟩
  ·refine dy aF hj' ?_
   refine dU (by omega) ?_
   refine rpG ?_
   refine dy aF hj' ?_
   refine gP (by omega) ?_
   refine rpG ?_
   exact ⟨rfl,hI⟩
  intro t54 _ _ _ _ _ _ _ _ _ w'
  rintro ⟨rfl,hI⟩
  refine av (fun hb=>by cases hb) (fun _=>?_)
  refine xZ (by omega) ?_
  refine dy aF hj' ?_
  refine Ml (c:=((d[j].toNat - 48:Nat):Int)) ?_ ?_
  ·rw [IntWalk.u8_in _ (by omega)]; omega
  refine l7 eq ma (IntWalk.i64_in _ (by omega)) ?_
  refine bm (by omega) ?_
  refine bm (by omega) ?_
  refine ⟨⟨j+1,m * 10+(d[j].toNat - 48),hj',rfl,?_,?_,?_,hI⟩,by simp [intOf]; omega⟩
  ·congr 1
  ·rw [Nat.pow_succ]; omega
  ·rw [<- hval,Kq hj']
 ·have:j=d.length:=by omega
  subst this
  rw [List.drop_length,AK] at hval
  refine ⟨fun t w'=>t=.int .i64 m/\Inv w [] [] S w',av (fun hb=>by cases hb) (fun _=>⟨rfl,hI⟩),?_⟩
  intro t5 _ _ _ w'
  rintro ⟨rfl,hI⟩
  exact done hI (by rw [hval])
abbrev zl (k n:Int):Value:=.agg #[.int .i64 k,.int .i64 n,.string ⟨#[]⟩,.slice none 0 0]
theorem wY {w:World} {K:Value->World->Prop} {k n:Int} (hk:K (zl k n) w):Run Tryz.prog (bI ab [(0,.int .i64 k),(1,.int .i64 n)]) w K:=by
 refine Run.of (v:=zl k n) (w':=w) ?_ hk
 unfold bI
 rw [Sem.run_bind,run_build w ab _ #[.int .i64 k,.int .i64 n,.string ⟨#[]⟩,.slice none 0 0] (by kernel_rfl),Result.andThen_ok]
 rfl
theorem qB (n:Int) (S:ae):Pure Tryz.prog Kt [.int .i64 n] S (zl 1 n):=by
 intro w hI
 refine yC.2 ?_
 dsimp only[yC,aE]
 refine aA hI aU fun b w' hI=>?_
 refine wY ?_
 refine aj hI 0 rfl ac rfl rfl (by simp [Value.oneCell']) fun w' hI=>?_
 refine aS hI 0 ac rfl rfl ?_
 exact done hI rfl
theorem hY (n:Int) (S:ae):Pure Tryz.prog KM [.int .i64 n] S (zl 2 n):=by
 intro w hI
 refine zN.2 ?_
 dsimp only[zN,aE]
 refine aA hI aU fun b w' hI=>?_
 refine wY ?_
 refine aj hI 0 rfl ac rfl rfl (by simp [Value.oneCell']) fun w' hI=>?_
 refine aS hI 0 ac rfl rfl ?_
 exact done hI rfl
end
theorem Gg (s:Bs) (n e:Nat):pk s (n+1) e=if dig s e=true then pk s n (e+1) else e:=rfl
theorem CM (s:Bs):∀ (n e:Nat),e<=pk s n e/\pk s n e<=e+n
 | 0,e=>by simp [pk]
 | n+1,e=>by
  rw [pk]
  split
  ·have:=CM s n (e+1); omega
  ·omega
theorem tP (s:Bs):∀ (n e i:Nat),e<=i->i<pk s n e->dig s i=true
 | 0,e,i,h1,h2=>by simp [pk] at h2; omega
 | n+1,e,i,h1,h2=>by
  rw [pk] at h2
  split at h2
  ·rename_i h
   by_cases he:e=i
   ·subst he; exact h
   ·exact tP s n (e+1) i (by omega) h2
  ·omega
theorem DH {s:Bs} {a b i:Nat} (hi:i<(cut s a b).length):∃ h:a+i<s.length,(cut s a b)[i]=s[a+i]/\a+i<b:=by
 have h1:(cut s a b).length=min b s.length - a:=by simp [cut]
 refine ⟨by omega,?_,by omega⟩
 simp [cut]
theorem Cv {s:Bs} {a b:Nat} (hb:b<=s.length):(cut s a b).length=b - a:=by simp [cut]; omega
theorem Nb {s:Bs} {a b i:Nat} (hi:i<(cut s a b).length):dig (cut s a b) i=dig s (a+i):=by
 obtain ⟨h,e,_⟩:=DH hi
 rw [dig,dig,me hi,me h,e]
section
attribute [local irreducible] Run CondV ar aI
theorem yf {s:Bs} {i e:Nat} {t:T} (hn:LA s i=some (t,e)) (hi:i<=100000) (S:ae) :
  ∃ n:Int,inI n/\t=.mk 2 n emptyB []/\i<=e/\e<=i+5/\Pure Tryz.prog C9 [.string (st s),.int .i64 (i:Int)] S (.tuple #[zl 2 n,.int .i64 (e:Int)]):=by
 unfold LA at hn
 obtain ⟨fr,hfr⟩:∃ fr,fr=if sgn s i 45=true then i+1 else i:=⟨_,rfl⟩
 simp only [<- hfr] at hn
 obtain ⟨en,hen⟩:∃ en,en=pk s 4 fr:=⟨_,rfl⟩
 simp only [<- hen] at hn
 have hle:=CM s 4 fr
 rw [<- hen] at hle
 have hfi:i<=fr/\fr<=i+1:=by rw [hfr]; split <;> omega
 split at hn
 ·cases hn
 rename_i hc
 simp only [not_or] at hc
 obtain ⟨hc1,hc2,hc3,hc4⟩:=hc
 simp only [Option.some.injEq,Prod.mk.injEq] at hn
 obtain ⟨rfl,rfl⟩:=hn
 have hdig:∀ j,j<(cut s fr en).length->dig (cut s fr en) j=true:=fun j hj=>by
  obtain ⟨h1,h2,h3⟩:=DH hj
  rw [Nb hj]
  exact tP s 4 fr _ (by omega) (by rw [<- hen]; exact h3)
 have hlen0:0<(cut s fr en).length:=by
  cases he:cut s fr en with
  | nil=>exact absurd he hc1
  | cons a l=>simp
 have hen2:fr<en:=by
  obtain ⟨_,_,h3⟩:=DH hlen0
  omega
 have hens:en<=s.length:=by
  have:=tP s 4 fr (en - 1) (by omega) (by rw [<- hen]; omega)
  have:=yR this
  omega
 refine ⟨_,?_,rfl,by omega,by omega,?_⟩
 ·unfold inI; split <;> omega
 intro w hI
 refine qu.2 ?_
 dsimp only[qu,aY]
 refine aA hI aU fun b4 w' hI=>?_
 refine ⟨fun t w'=>t=.int .i64 (fr:Int)/\Inv w [] [.blk b4 (.cells #[.int .i64 0,.int .i64 0,.string ⟨#[]⟩,.slice none 0 0] ab)] S w',?_,?_⟩
 ·refine Run.callPure ct cw hI (cg s i 45 S) fun w' hI=>?_
  refine av (fun hb=>?_) (fun hb=>?_)
  ·refine bm (by omega) ?_
   rw [if_pos hb] at hfr
   exact ⟨by rw [hfr]; congr 1,hI⟩
  ·rw [if_neg (by rw [hb]; decide)] at hfr
   exact ⟨by rw [hfr],hI⟩
 intro t6 _ _ _ _ _ w'
 rintro ⟨rfl,hI⟩
 refine ⟨fun t w'=>∃ j:Nat,t=.int .i64 (j:Int)/\fr<=j/\j<=fr+4/\pk s (fr+4 - j) j=en/\Inv w [] [.blk b4 (.cells #[.int .i64 0,.int .i64 0,.string ⟨#[]⟩,.slice none 0 0] ab)] S w',fun t _=>fr+4 - (intOf t).toNat,
  ⟨fr,rfl,Nat.le_refl _,by omega,by rw [Nat.add_sub_cancel_left]; exact hen.symm,hI⟩,?_⟩
 intro t6 _ _ _ _ _ _ _ _ _ _ _ w'
 rintro ⟨j,rfl,hj1,hj2,hj3,hI⟩
 refine ⟨fun t w'=>t=.bool (dig s j && decide (j<fr+4))/\Inv w [] [.blk b4 (.cells #[.int .i64 0,.int .i64 0,.string ⟨#[]⟩,.slice none 0 0] ab)] S w',?_,?_⟩
 ·refine Run.callPure jg jh hI (fL s j S) fun w' hI=>?_
  cases hdj:dig s j
  ·refine rpG ?_
   exact ⟨rfl,hI⟩
  ·refine rpG ?_
   refine bm (by omega) ?_
   refine bD ?_
   refine rpG ?_
   refine ⟨?_,hI⟩
   rw [Bool.true_and]
   congr 1
   rw [decide_eq_decide]
   omega
 intro t25 _ _ _ _ _ _ _ _ w'
 rintro ⟨rfl,hI⟩
 refine av (fun hb=>?_) (fun hb=>?_)
 ·rw [Bool.and_eq_true,decide_eq_true_eq] at hb
  refine bm (by omega) ?_
  refine ⟨⟨j+1,rfl,by omega,by omega,?_,hI⟩,by simp [intOf]; omega⟩
  rw [<- hj3,show fr+4 - j=(fr+4 - (j+1))+1 by omega,Gg,if_pos hb.1]
 ·have hje:j=en:=by
   rw [<- hj3]
   by_cases h4:j=fr+4
   ·rw [h4,Nat.sub_self]; rfl
   ·rw [show fr+4 - j=(fr+4 - (j+1))+1 by omega,Gg,if_neg]
    intro hd
    rw [hd,Bool.true_and,decide_eq_false_iff_not] at hb
    omega
  subst hje
  refine yE aF (by omega) hens ?_
  refine Run.callPure EX EP hI (Da _ hdig hlen0 (by rw [Cv hens]; omega) hc2 S) fun w' hI=>?_
  obtain ⟨n,hn⟩:∃ n,n=AK (cut s fr j) 0:=⟨_,rfl⟩
  rw [<- hn]
  refine ai (v:=.int .i64 (n:Int)) rfl ?_
  refine ai (v:=.bool true) rfl ?_
  simp only [<- hn] at hc3 hc4 ⊢
  refine ⟨fun t w'=>t=.bool false/\Inv w [] [.blk b4 (.cells #[.int .i64 0,.int .i64 0,.string ⟨#[]⟩,.slice none 0 0] ab)] S w',?_,?_⟩
  ·refine bW ?_
   refine rpG ?_
   by_cases hfi':i<fr
   ·refine DG (by omega) ?_
    refine rpG ?_
    refine bh ?_
    have:¬ n=0:=fun h=>hc3 ⟨hfi',h⟩
    rw [decide_eq_false (by omega)]
    refine rpG ?_
    refine gP (by omega) ?_
    refine rpG ?_
    exact ⟨rfl,hI⟩
   ·refine gP (by omega) ?_
    refine rpG ?_
    refine gP (by omega) ?_
    refine rpG ?_
    exact ⟨rfl,hI⟩
  intro t50 _ _ _ _ _ _ _ _ _ _ _ _ _ _ w'
  rintro ⟨rfl,hI⟩
  refine av (fun hb=>by cases hb) (fun _=>?_)
  refine ⟨fun t w'=>t=.int .i64 (if i<fr then -(n:Int) else n)/\Inv w [] [.blk b4 (.cells #[.int .i64 0,.int .i64 0,.string ⟨#[]⟩,.slice none 0 0] ab)] S w',?_,?_⟩
  ·refine cY ?_
   refine aN (fun hb=>?_) (fun hb=>?_)
   ·refine Or (by omega) ?_
    exact ⟨by rw [if_pos (by omega)],hI⟩
   ·exact ⟨by rw [if_neg (by omega)],hI⟩
  intro t8 _ _ _ _ _ w'
  rintro ⟨rfl,hI⟩
  refine Run.callPure mi md hI (hY _ S) fun w' hI=>?_
  refine aj hI 0 rfl ac rfl rfl (by simp [Value.oneCell']) fun w' hI=>?_
  refine aS hI 0 ac rfl rfl ?_
  exact done hI rfl
end
theorem RdSl.some1 {α:Type} {S:ae} {k:Nat} {R:List Value->α->Prop} {v:Value} {xs:List α} (h:RdSl S k R v xs) (h0:0<xs.length):∃ b o cap,v=.slice (some ⟨b,o,none⟩) xs.length cap:=by
 obtain ⟨b,o,cap,c,E,fz,e,_,_⟩:=h.at_ h0
 exact ⟨b,o,cap,e⟩
theorem Fs (s:Bs) (n e:Nat):xo s (n+1) e=if sml s e=true then xo s n (e+1) else e:=rfl
def JU (o:Option (Bs × Nat)):Value:=match o with
 | none=>.tuple #[.string ⟨#[]⟩,.int .i64 (-1)]
 | some (n,e)=>.tuple #[.string (st n),.int .i64 (e:Int)]
theorem IH (s:Bs) (i:Nat) {j:Nat} (h:j<signs.length) (b:Bs):gG s i (signs.drop j) b=gG s i (signs.drop (j+1)) (if decide (i+signs[j].size<=s.length)=true/\cut s i (i+signs[j].size)=bs signs[j]/\b.length<signs[j].size then bs signs[j] else b):=by
 rw [List.drop_eq_getElem_cons h,gG]
theorem Gj:∀ x∈signs,x.size<=3:=by decide
section
attribute [local irreducible] Run CondV ar aI
theorem sK {s:Bs} {i:Nat} (hi:i<s.length) (hs:s.length<=100000) (S:ae):Pure Tryz.prog GR [.string (st s),.int .i64 (i:Int)] S (JU (sJ s i)):=by
 intro w hI
 refine xc.2 ?_
 dsimp only[xc,aY]
 obtain ⟨E,hE⟩:∃ E,E=xo s (s.length - i) i:=⟨_,rfl⟩
 have hnm:sJ s i=if i+6<E then none else if i<E then some (cut s i E,E) else if gG s i signs []=[] then none else some (gG s i signs [],i+(gG s i signs []).length):=by
  rw [sJ,<- hE]
 refine ⟨fun t w'=>∃ e:Nat,t=.int .i64 (e:Int)/\i<=e/\e<=s.length/\xo s (s.length - e) e=E/\Inv w [] [] S w',fun t _=>s.length - (intOf t).toNat,⟨i,rfl,Nat.le_refl _,by omega,hE.symm,hI⟩,?_⟩
 intro t6 _ _ _ _ _ w'
 rintro ⟨e,rfl,he1,he2,he3,hI⟩
 refine Run.callPure tH ru hI (mH s e S) fun w' hI=>?_
 refine av (fun hb=>?_) (fun hb=>?_)
 ·have hlt:=yR hb
  refine bm (by omega) ?_
  refine ⟨⟨e+1,rfl,by omega,by omega,?_,hI⟩,by simp [intOf]; omega⟩
  rw [<- he3,show s.length - e=(s.length - (e+1))+1 by omega,Fs,if_pos hb]
 have heE:e=E:=by
  rw [<- he3]
  by_cases h:e=s.length
  ·rw [h,Nat.sub_self,xo]
  ·rw [show s.length - e=(s.length - (e+1))+1 by omega,Fs,if_neg (by rw [hb]; decide)]
 subst heE
 refine bm (by omega) ?_
 refine cY ?_
 refine aN (fun hb=>done hI (by rw [hnm,if_pos (by omega)]; rfl)) (fun hb=>?_)
 rw [if_neg (by omega)] at hnm
 refine cY ?_
 refine aN (fun hb=>?_) (fun hb=>?_)
 ·refine yE aF (by omega) (by omega) ?_
  exact done hI (by rw [hnm,if_pos (by omega)]; rfl)
 rw [if_neg (by omega)] at hnm
 refine Run.call0 uh tb hI (qd S) fun v I' S1 w'=>?_
 rintro ⟨rfl,hle,hr⟩ _ hI
 obtain ⟨b,o,cap,rfl⟩:=RdSl.some1 hr (by decide)
 refine ⟨fun t u w'=>∃ (j:Nat) (best:Bs),j<=signs.length/\t=.int .i64 (j:Int)/\u=.string (st best)/\best.length<=3/\gG s i (signs.drop j) best=gG s i signs []/\Inv w [] [] S1 w',fun t _ _=>signs.length - (intOf t).toNat,
  ⟨0,[],Nat.zero_le _,rfl,rfl,by simp,rfl,hI.nil⟩,?_⟩
 intro t9 _ _ t7 _ _ _ _ t65 t64 t63 t62 t61 t60 t59 t58 t57 t56 t55 t54 t53 t52 t51 t50 t49 t48 t47 t46 t45 t44 t43 t42 t41 _ _ _ _ _ _ _ _ _ _ w'
 rintro ⟨j,best,hj0,rfl,rfl,hbl,hbest,hI⟩
 have h15:signs.length=15:=rfl
 refine aK hr bH ?_
 refine bD ?_
 refine aN (fun hji=>?_) (fun hji=>?_)
 ·have hj:j<signs.length:=by omega
  obtain ⟨x,hx⟩:∃ x,x=signs[j]:=⟨_,rfl⟩
  have hx3:x.size<=3:=by rw [hx]; exact Gj _ (List.getElem_mem hj)
  obtain ⟨b',o',cap',c,E',fz,hsl,hS,hR⟩:=hr.at_ hj
  cases hsl
  have hcx:c[o+j * 1]?=some (.string x):=by rw [hx]; exact aD hR 0 _ rfl
  rw [IH s i hj,<- hx] at hbest
  refine ⟨fun u w'=>∃ best',u=.string (st best')/\best'.length<=3/\gG s i (signs.drop (j+1)) best'=gG s i signs []/\Inv w [] [] S1 w',?_,?_⟩
  ·refine ay bH hj ?_
   refine dd aC ((hI.cellS hS).trans hcx) ?_
   refine eQ aF ?_
   by_cases hlen:i+x.size<=s.length
   ·cases hq:decide (st (cut s i (i+x.size))=x)
    ·skip
     refine ⟨fun D JT FL AA xL xY xN xJ wH ta uy u4 tC pu kq rq rP sg pK lW nU mf kB iE jb iD w_=>Fx D 0 [iD=.int .i64 (i:Int),jb=.int .i64 (x.size:Int),iE=.int .i64 ((i+x.size:Nat):Int),kB=.string (st s),mf=.int .i64 (s.length:Int),nU=.bool true,lW=.bool true,pK=.string (st s),sg=.int .i64 (i:Int),rP=.int .i64 (i:Int),rq=.int .i64 (x.size:Int),kq=.int .i64 ((i+x.size:Nat):Int),pu=.string (st (cut s i (i+x.size))),tC=.slice (some ⟨b,o,none⟩) signs.length cap,u4=.int .i64 (j:Int),uy=.pointer (some ⟨b,o+j * 1,none⟩),ta=.string x,wH=.bool false,xJ=.bool false,xN=.bool false,xY=undef,xL=undef,AA=undef,FL=undef,JT=.bool false]/\Inv w [] [] S1 w_,⟨Fx.nil _ _,hI.draw⟩,⟨?_,?_,?_,?_,?_,?_,?_,?_,?_,?_,?_,?_,?_,?_,?_,?_,?_,?_,?_,?_,?_,?_,?_,?_,?_,trivial⟩,?_⟩
     all_goals (intro D bw; intros; rename_i JT FL AA xL xY xN xJ wH ta uy u4 tC pu kq rq rP sg pK lW nU mf kB iE jb iD w_ hA_; have hF_:=hA_.1; obtain ⟨⟨bQ,bS,bU,bR,bY,bZ,bO,cG,cS,cT,bL,co,cO,dJ,dT,dY,ew,dK,fy,dV,eL,jU,oE,oj,rX,_⟩,hI⟩:=hA_)
     ·exact ⟨hF_.set 0 rfl,hI⟩
     ·exact ⟨hF_.set 1 rfl,hI⟩
     ·obtain rfl:=bQ ‹_›
      obtain rfl:=bS ‹_›
      refine bm (by omega) ?_
      exact ⟨hF_.set 2 rfl,hI⟩
     ·exact ⟨hF_.set 3 rfl,hI⟩
     ·obtain rfl:=bR ‹_›
      refine eH aF ?_
      exact ⟨hF_.set 4 rfl,hI⟩
     ·obtain rfl:=bU ‹_›
      obtain rfl:=bY ‹_›
      refine uG (by omega) ?_
      exact ⟨hF_.set 5 rfl,hI⟩
     ·obtain rfl:=bZ ‹_›
      exact ⟨hF_.set 6 rfl,hI⟩
     ·obtain rfl:=bO ‹_›
      refine au ?_
      exact ⟨hF_.set 7 rfl,hI⟩
     ·obtain rfl:=bO ‹_›
      refine au ?_
      exact ⟨hF_.set 8 rfl,hI⟩
     ·obtain rfl:=bO ‹_›
      refine au ?_
      exact ⟨hF_.set 9 rfl,hI⟩
     ·obtain rfl:=bO ‹_›
      refine au ?_
      exact ⟨hF_.set 10 rfl,hI⟩
     ·obtain rfl:=cT ‹_›
      obtain rfl:=bL ‹_›
      obtain rfl:=bO ‹_›
      refine au ?_; refine bm (by omega) ?_
      exact ⟨hF_.set 11 rfl,hI⟩
     ·obtain rfl:=cG ‹_›
      obtain rfl:=cS ‹_›
      obtain rfl:=co ‹_›
      obtain rfl:=bO ‹_›
      refine au ?_; refine yE aF (by omega) (by omega) ?_
      exact ⟨hF_.set 12 rfl,hI⟩
     ·obtain rfl:=bO ‹_›
      refine au ?_
      exact ⟨hF_.set 13 rfl,hI⟩
     ·obtain rfl:=bO ‹_›
      refine au ?_
      exact ⟨hF_.set 14 rfl,hI⟩
     ·obtain rfl:=dJ ‹_›
      obtain rfl:=dT ‹_›
      obtain rfl:=bO ‹_›
      refine au ?_; refine ay bH hj ?_
      exact ⟨hF_.set 15 rfl,hI⟩
     ·obtain rfl:=dY ‹_›
      obtain rfl:=bO ‹_›
      refine au ?_; refine dd aC ((hI.cellS hS).trans hcx) ?_
      exact ⟨hF_.set 16 rfl,hI⟩
     ·obtain rfl:=cO ‹_›
      obtain rfl:=ew ‹_›
      obtain rfl:=bO ‹_›
      refine au ?_; refine bf ?_; rw [hq]
      exact ⟨hF_.set 17 rfl,hI⟩
     ·obtain rfl:=bO ‹_›
      obtain rfl:=dK ‹_›
      refine ik ?_
      exact ⟨hF_.set 18 rfl,hI⟩
     ·obtain rfl:=fy ‹_›
      exact ⟨hF_.set 19 rfl,hI⟩
     ·obtain rfl:=dV ‹_›
      refine bn (c:=false) (b:=true) (by decide) ?_
      exact ⟨hF_.set 20 rfl,hI⟩
     ·obtain rfl:=dV ‹_›
      refine bn (c:=false) (b:=true) (by decide) ?_
      exact ⟨hF_.set 21 rfl,hI⟩
     ·obtain rfl:=jU ‹_›
      obtain rfl:=dV ‹_›
      refine bn (c:=false) (b:=true) (by decide) ?_
      exact ⟨hF_.set 22 rfl,hI⟩
     ·obtain rfl:=eL ‹_›
      obtain rfl:=oE ‹_›
      obtain rfl:=dV ‹_›
      refine bn (c:=false) (b:=true) (by decide) ?_
      exact ⟨hF_.set 23 rfl,hI⟩
     ·obtain rfl:=dV ‹_›
      obtain rfl:=oj ‹_›
      refine fM ?_
      exact ⟨hF_.set 24 rfl,hI⟩
     obtain ⟨rfl,rfl,rfl,rfl,rfl,rfl,rfl,rfl,rfl,rfl,rfl,rfl,rfl,rfl,rfl,rfl,rfl,rfl,rfl,rfl,rfl,rfl,rfl,rfl,rfl,_⟩:=hF_.all
     clear hF_ bQ bS bU bR bY bZ bO cG cS cT bL co cO dJ dT dY ew dK fy dV eL jU oE oj rX
     refine av (fun hb=>by cases hb) (fun _=>?_)
     refine ⟨best,rfl,hbl,?_,hI⟩
     rw [if_neg] at hbest
     ·exact hbest
     ·rintro ⟨_,h2,_⟩
      rw [decide_eq_false_iff_not] at hq
      exact hq (by rw [h2])
    ·rw [decide_eq_true_eq] at hq
     have hq':=hq
     have hq:decide (st (cut s i (i+x.size))=x)=true:=decide_eq_true hq'
     skip
     refine ⟨fun D JT FL AA xL xY xN xJ wH ta uy u4 tC pu kq rq rP sg pK lW nU mf kB iE jb iD w_=>Fx D 0 [iD=.int .i64 (i:Int),jb=.int .i64 (x.size:Int),iE=.int .i64 ((i+x.size:Nat):Int),kB=.string (st s),mf=.int .i64 (s.length:Int),nU=.bool true,lW=.bool true,pK=.string (st s),sg=.int .i64 (i:Int),rP=.int .i64 (i:Int),rq=.int .i64 (x.size:Int),kq=.int .i64 ((i+x.size:Nat):Int),pu=.string (st (cut s i (i+x.size))),tC=.slice (some ⟨b,o,none⟩) signs.length cap,u4=.int .i64 (j:Int),uy=.pointer (some ⟨b,o+j * 1,none⟩),ta=.string x,wH=.bool true,xJ=.bool true,xN=.bool true,xY=.int .i64 (x.size:Int),xL=.string (st best),AA=.int .i64 (best.length:Int),FL=.bool (decide ((best.length:Int)<(x.size:Int))),JT=.bool (decide ((best.length:Int)<(x.size:Int)))]/\Inv w [] [] S1 w_,⟨Fx.nil _ _,hI.draw⟩,⟨?_,?_,?_,?_,?_,?_,?_,?_,?_,?_,?_,?_,?_,?_,?_,?_,?_,?_,?_,?_,?_,?_,?_,?_,?_,trivial⟩,?_⟩
     all_goals (intro D bw; intros; rename_i JT FL AA xL xY xN xJ wH ta uy u4 tC pu kq rq rP sg pK lW nU mf kB iE jb iD w_ hA_; have hF_:=hA_.1; obtain ⟨⟨bQ,bS,bU,bR,bY,bZ,bO,cG,cS,cT,bL,co,cO,dJ,dT,dY,ew,dK,fy,dV,eL,jU,oE,oj,rX,_⟩,hI⟩:=hA_)
     ·exact ⟨hF_.set 0 rfl,hI⟩
     ·exact ⟨hF_.set 1 rfl,hI⟩
     ·obtain rfl:=bQ ‹_›
      obtain rfl:=bS ‹_›
      refine bm (by omega) ?_
      exact ⟨hF_.set 2 rfl,hI⟩
     ·exact ⟨hF_.set 3 rfl,hI⟩
     ·obtain rfl:=bR ‹_›
      refine eH aF ?_
      exact ⟨hF_.set 4 rfl,hI⟩
     ·obtain rfl:=bU ‹_›
      obtain rfl:=bY ‹_›
      refine uG (by omega) ?_
      exact ⟨hF_.set 5 rfl,hI⟩
     ·obtain rfl:=bZ ‹_›
      exact ⟨hF_.set 6 rfl,hI⟩
     ·obtain rfl:=bO ‹_›
      refine au ?_
      exact ⟨hF_.set 7 rfl,hI⟩
     ·obtain rfl:=bO ‹_›
      refine au ?_
      exact ⟨hF_.set 8 rfl,hI⟩
     ·obtain rfl:=bO ‹_›
      refine au ?_
      exact ⟨hF_.set 9 rfl,hI⟩
     ·obtain rfl:=bO ‹_›
      refine au ?_
      exact ⟨hF_.set 10 rfl,hI⟩
     ·obtain rfl:=cT ‹_›
      obtain rfl:=bL ‹_›
      obtain rfl:=bO ‹_›
      refine au ?_; refine bm (by omega) ?_
      exact ⟨hF_.set 11 rfl,hI⟩
     ·obtain rfl:=cG ‹_›
      obtain rfl:=cS ‹_›
      obtain rfl:=co ‹_›
      obtain rfl:=bO ‹_›
      refine au ?_; refine yE aF (by omega) (by omega) ?_
      exact ⟨hF_.set 12 rfl,hI⟩
     ·obtain rfl:=bO ‹_›
      refine au ?_
      exact ⟨hF_.set 13 rfl,hI⟩
     ·obtain rfl:=bO ‹_›
      refine au ?_
      exact ⟨hF_.set 14 rfl,hI⟩
     ·obtain rfl:=dJ ‹_›
      obtain rfl:=dT ‹_›
      obtain rfl:=bO ‹_›
      refine au ?_; refine ay bH hj ?_
      exact ⟨hF_.set 15 rfl,hI⟩
     ·obtain rfl:=dY ‹_›
      obtain rfl:=bO ‹_›
      refine au ?_; refine dd aC ((hI.cellS hS).trans hcx) ?_
      exact ⟨hF_.set 16 rfl,hI⟩
     ·obtain rfl:=cO ‹_›
      obtain rfl:=ew ‹_›
      obtain rfl:=bO ‹_›
      refine au ?_; refine bf ?_; rw [hq]
      exact ⟨hF_.set 17 rfl,hI⟩
     ·obtain rfl:=bO ‹_›
      obtain rfl:=dK ‹_›
      refine ik ?_
      exact ⟨hF_.set 18 rfl,hI⟩
     ·obtain rfl:=fy ‹_›
      exact ⟨hF_.set 19 rfl,hI⟩
     ·obtain rfl:=dV ‹_›
      refine au ?_
      exact ⟨hF_.set 20 rfl,hI⟩
     ·obtain rfl:=dV ‹_›
      refine au ?_
      exact ⟨hF_.set 21 rfl,hI⟩
     ·obtain rfl:=jU ‹_›
      obtain rfl:=dV ‹_›
      refine au ?_; refine eH aF ?_
      exact ⟨hF_.set 22 rfl,hI⟩
     ·obtain rfl:=eL ‹_›
      obtain rfl:=oE ‹_›
      obtain rfl:=dV ‹_›
      refine au ?_; refine cY ?_
      exact ⟨hF_.set 23 rfl,hI⟩
     ·obtain rfl:=dV ‹_›
      obtain rfl:=oj ‹_›
      refine ik ?_
      exact ⟨hF_.set 24 rfl,hI⟩
     obtain ⟨rfl,rfl,rfl,rfl,rfl,rfl,rfl,rfl,rfl,rfl,rfl,rfl,rfl,rfl,rfl,rfl,rfl,rfl,rfl,rfl,rfl,rfl,rfl,rfl,rfl,_⟩:=hF_.all
     clear hF_ bQ bS bU bR bY bZ bO cG cS cT bL co cO dJ dT dY ew dK fy dV eL jU oE oj rX
     have hcut:cut s i (i+x.size)=bs x:=by rw [<- yP (cut s i (i+x.size)),hq']
     refine aN (fun hb=>?_) (fun hb=>?_)
     ·refine ay bH hj ?_
      refine dd aC ((hI.cellS hS).trans hcx) ?_
      refine ⟨bs x,rfl,by rw [<- hcut,Cv hlen]; omega,?_,hI⟩
      rw [if_pos ⟨decide_eq_true hlen,hcut,by omega⟩] at hbest
      exact hbest
     ·refine ⟨best,rfl,hbl,?_,hI⟩
      rw [if_neg] at hbest
      ·exact hbest
      ·rintro ⟨_,_,h3⟩
       omega
   ·skip
    refine ⟨fun D JT FL AA xL xY xN xJ wH ta uy u4 tC pu kq rq rP sg pK lW nU mf kB iE jb iD w_=>Fx D 0 [iD=.int .i64 (i:Int),jb=.int .i64 (x.size:Int),iE=.int .i64 ((i+x.size:Nat):Int),kB=.string (st s),mf=.int .i64 (s.length:Int),nU=.bool false,lW=.bool false,pK=undef,sg=undef,rP=undef,rq=undef,kq=undef,pu=undef,tC=undef,u4=undef,uy=undef,ta=undef,wH=undef,xJ=.bool false,xN=.bool false,xY=undef,xL=undef,AA=undef,FL=undef,JT=.bool false]/\Inv w [] [] S1 w_,⟨Fx.nil _ _,hI.draw⟩,⟨?_,?_,?_,?_,?_,?_,?_,?_,?_,?_,?_,?_,?_,?_,?_,?_,?_,?_,?_,?_,?_,?_,?_,?_,?_,trivial⟩,?_⟩
    all_goals (intro D bw; intros; rename_i JT FL AA xL xY xN xJ wH ta uy u4 tC pu kq rq rP sg pK lW nU mf kB iE jb iD w_ hA_; have hF_:=hA_.1; obtain ⟨⟨bQ,bS,bU,bR,bY,bZ,bO,cG,cS,cT,bL,co,cO,dJ,dT,dY,ew,dK,fy,dV,eL,jU,oE,oj,rX,_⟩,hI⟩:=hA_)
    ·exact ⟨hF_.set 0 rfl,hI⟩
    ·exact ⟨hF_.set 1 rfl,hI⟩
    ·obtain rfl:=bQ ‹_›
     obtain rfl:=bS ‹_›
     refine bm (by omega) ?_
     exact ⟨hF_.set 2 rfl,hI⟩
    ·exact ⟨hF_.set 3 rfl,hI⟩
    ·obtain rfl:=bR ‹_›
     refine eH aF ?_
     exact ⟨hF_.set 4 rfl,hI⟩
    ·obtain rfl:=bU ‹_›
     obtain rfl:=bY ‹_›
     refine DJ (by omega) ?_
     exact ⟨hF_.set 5 rfl,hI⟩
    ·obtain rfl:=bZ ‹_›
     exact ⟨hF_.set 6 rfl,hI⟩
    ·obtain rfl:=bO ‹_›
     refine bn (c:=false) (b:=true) (by decide) ?_
     exact ⟨hF_.set 7 rfl,hI⟩
    ·obtain rfl:=bO ‹_›
     refine bn (c:=false) (b:=true) (by decide) ?_
     exact ⟨hF_.set 8 rfl,hI⟩
    ·obtain rfl:=bO ‹_›
     refine bn (c:=false) (b:=true) (by decide) ?_
     exact ⟨hF_.set 9 rfl,hI⟩
    ·obtain rfl:=bO ‹_›
     refine bn (c:=false) (b:=true) (by decide) ?_
     exact ⟨hF_.set 10 rfl,hI⟩
    ·obtain rfl:=cT ‹_›
     obtain rfl:=bL ‹_›
     obtain rfl:=bO ‹_›
     refine bn (c:=false) (b:=true) (by decide) ?_
     exact ⟨hF_.set 11 rfl,hI⟩
    ·obtain rfl:=cG ‹_›
     obtain rfl:=cS ‹_›
     obtain rfl:=co ‹_›
     obtain rfl:=bO ‹_›
     refine bn (c:=false) (b:=true) (by decide) ?_
     exact ⟨hF_.set 12 rfl,hI⟩
    ·obtain rfl:=bO ‹_›
     refine bn (c:=false) (b:=true) (by decide) ?_
     exact ⟨hF_.set 13 rfl,hI⟩
    ·obtain rfl:=bO ‹_›
     refine bn (c:=false) (b:=true) (by decide) ?_
     exact ⟨hF_.set 14 rfl,hI⟩
    ·obtain rfl:=dJ ‹_›
     obtain rfl:=dT ‹_›
     obtain rfl:=bO ‹_›
     refine bn (c:=false) (b:=true) (by decide) ?_
     exact ⟨hF_.set 15 rfl,hI⟩
    ·obtain rfl:=dY ‹_›
     obtain rfl:=bO ‹_›
     refine bn (c:=false) (b:=true) (by decide) ?_
     exact ⟨hF_.set 16 rfl,hI⟩
    ·obtain rfl:=cO ‹_›
     obtain rfl:=ew ‹_›
     obtain rfl:=bO ‹_›
     refine bn (c:=false) (b:=true) (by decide) ?_
     exact ⟨hF_.set 17 rfl,hI⟩
    ·obtain rfl:=bO ‹_›
     obtain rfl:=dK ‹_›
     refine fM ?_
     exact ⟨hF_.set 18 rfl,hI⟩
    ·obtain rfl:=fy ‹_›
     exact ⟨hF_.set 19 rfl,hI⟩
    ·obtain rfl:=dV ‹_›
     refine bn (c:=false) (b:=true) (by decide) ?_
     exact ⟨hF_.set 20 rfl,hI⟩
    ·obtain rfl:=dV ‹_›
     refine bn (c:=false) (b:=true) (by decide) ?_
     exact ⟨hF_.set 21 rfl,hI⟩
    ·obtain rfl:=jU ‹_›
     obtain rfl:=dV ‹_›
     refine bn (c:=false) (b:=true) (by decide) ?_
     exact ⟨hF_.set 22 rfl,hI⟩
    ·obtain rfl:=eL ‹_›
     obtain rfl:=oE ‹_›
     obtain rfl:=dV ‹_›
     refine bn (c:=false) (b:=true) (by decide) ?_
     exact ⟨hF_.set 23 rfl,hI⟩
    ·obtain rfl:=dV ‹_›
     obtain rfl:=oj ‹_›
     refine fM ?_
     exact ⟨hF_.set 24 rfl,hI⟩
    obtain ⟨rfl,rfl,rfl,rfl,rfl,rfl,rfl,rfl,rfl,rfl,rfl,rfl,rfl,rfl,rfl,rfl,rfl,rfl,rfl,rfl,rfl,rfl,rfl,rfl,rfl,_⟩:=hF_.all
    clear hF_ bQ bS bU bR bY bZ bO cG cS cT bL co cO dJ dT dY ew dK fy dV eL jU oE oj rX
    refine av (fun hb=>by cases hb) (fun _=>?_)
    refine ⟨best,rfl,hbl,?_,hI⟩
    rw [if_neg] at hbest
    ·exact hbest
    ·rintro ⟨h1,_⟩
     rw [decide_eq_true_eq] at h1
     exact hlen h1
  intro t7 _ _ _ _ _ _ _ _ _ _ _ _ _ _ _ _ _ _ _ _ _ _ _ _ _ _ _ _ _ _ _ _ _ _ _ w'
  rintro ⟨best',rfl,hbl',hb',hI⟩
  refine bm (by omega) ?_
  exact ⟨⟨j+1,best',hj,rfl,rfl,hbl',hb',hI⟩,by simp [intOf]; omega⟩
 ·have:j=signs.length:=by omega
  subst this
  rw [List.drop_length,gG] at hbest
  rw [<- hbest] at hnm
  refine bf ?_
  refine aN (fun hb=>?_) (fun hb=>?_)
  ·have:best=[]:=by rw [<- yP best,hb]
   exact sG hI hle (by rw [hnm,if_pos this]; rfl)
  ·have:¬ best=[]:=fun h=>hb (by rw [h])
   refine eH aF ?_
   refine bm (by omega) ?_
   exact sG hI hle (by rw [hnm,if_neg this]; rfl)
end
theorem u6 (s:Bs) (i:Nat):∀ (l:List ByteArray) (b:Bs),(∀ x∈l,x.size<=3)->b.length<=3->i+b.length<=s.length->i+(gG s i l b).length<=s.length/\(gG s i l b).length<=3
 | [],b,_,h2,h3=>⟨h3,h2⟩
 | x::l,b,h1,h2,h3=>by
  rw [gG]
  have hx:(bs x).length=x.size:=Array.length_toList
  split
  ·rename_i h
   exact u6 s i l _ (fun y hy=>h1 y (List.mem_cons_of_mem _ hy)) (by rw [hx]; exact h1 x (List.mem_cons_self ..)) (by rw [hx]; exact of_decide_eq_true h.1)
  ·exact u6 s i l _ (fun y hy=>h1 y (List.mem_cons_of_mem _ hy)) h2 h3
theorem JP (s:Bs):∀ (n e:Nat),e<=xo s n e/\xo s n e<=e+n
 | 0,e=>by simp [xo]
 | n+1,e=>by
  rw [xo]
  split
  ·have:=JP s n (e+1); omega
  ·omega
theorem te {s:Bs} {i:Nat} {n:Bs} {e:Nat} (hi:i<s.length) (h:sJ s i=some (n,e)):i<e/\e<=s.length/\n.length<=6/\n≠[]:=by
 have hl:=JP s (s.length - i) i
 have hb:=u6 s i signs [] Gj (by simp) (by simpa using Nat.le_of_lt hi)
 unfold sJ at h
 simp only [] at h
 split at h
 ·cases h
 ·split at h
  ·simp only [Option.some.injEq,Prod.mk.injEq] at h
   obtain ⟨rfl,rfl⟩:=h
   rename_i h1 h2
   have hc:=Cv (s:=s) (a:=i) (b:=xo s (s.length - i) i) (by omega)
   refine ⟨h2,by omega,by omega,fun h=>?_⟩
   rw [h] at hc
   simp at hc
   omega
  ·split at h
   ·cases h
   ·simp only [Option.some.injEq,Prod.mk.injEq] at h
    obtain ⟨rfl,rfl⟩:=h
    rename_i h3
    have:0<(gG s i signs []).length:=by
     cases he:gG s i signs [] with
     | nil=>exact absurd he h3
     | cons a l=>simp
    exact ⟨by omega,by omega,by omega,h3⟩
def opV (o:Option (Bs × Nat)) (i:Nat):Value:=match o with
 | none=>.tuple #[.string ⟨#[]⟩,.int .i64 (i:Int)]
 | some (n,e)=>.tuple #[.string (st n),.int .i64 (e:Int)]
theorem Mq {s:Bs} {i:Nat} {n:Bs} {e:Nat} (h:opF s i=some (n,e)):i<e/\e<=s.length/\n.length<=6/\n≠[]:=by
 unfold opF at h
 obtain ⟨fr,hfr⟩:∃ fr,fr=if sgn s i 32=true then i+1 else i:=⟨_,rfl⟩
 simp only [<- hfr] at h
 have hfi:i<=fr:=by rw [hfr]; split <;> omega
 split at h
 ·cases h
 rename_i hlt
 split at h
 ·cases h
 rename_i nm nx hnm
 obtain ⟨h1,h2,h3,h4⟩:=te (by omega) hnm
 split at h
 ·cases h
 rename_i hc
 simp only [not_or,not_and,Bool.not_eq_false] at hc
 simp only [Option.some.injEq,Prod.mk.injEq] at h
 obtain ⟨rfl,rfl⟩:=h
 refine ⟨by split <;> omega,?_,h3,h4⟩
 split
 ·rename_i hw
  have:=gd (hc.2.2 hw)
  omega
 ·exact h2
section
attribute [local irreducible] Run CondV ar aI
theorem Hk {s:Bs} {i:Nat} (hs:s.length<=100000) (hi:i<=s.length) (S:ae):Pure Tryz.prog LB [.string (st s),.int .i64 (i:Int)] S (opV (opF s i) i):=by
 intro w hI
 refine Bq.2 ?_
 dsimp only[Bq,aY]
 obtain ⟨fr,hfr⟩:∃ fr,fr=if sgn s i 32=true then i+1 else i:=⟨_,rfl⟩
 have hfi:i<=fr/\fr<=i+1:=by rw [hfr]; split <;> omega
 obtain ⟨r,hr⟩:∃ r,r=opF s i:=⟨_,rfl⟩
 rw [<- hr]
 unfold opF at hr
 simp only [<- hfr] at hr
 refine ⟨fun t w'=>t=.int .i64 (fr:Int)/\Inv w [] [] S w',?_,?_⟩
 ·refine Run.callPure ct cw hI (cg s i 32 S) fun w' hI=>?_
  refine av (fun hb=>?_) (fun hb=>?_)
  ·refine bm (by omega) ?_
   rw [if_pos hb] at hfr
   exact ⟨by rw [hfr]; congr 1,hI⟩
  ·rw [if_neg (by rw [hb]; decide)] at hfr
   exact ⟨by rw [hfr],hI⟩
 intro t6 _ _ _ _ _ w'
 rintro ⟨rfl,hI⟩
 refine eH aF ?_
 refine iu ?_
 refine aN (fun hb=>?_) (fun hb=>?_)
 ·rw [if_pos (by omega)] at hr
  exact done hI (by rw [hr]; rfl)
 rw [if_neg (by omega)] at hr
 refine Run.callPure wa vF hI (sK (by omega) hs S) fun w' hI=>?_
 cases hnm:sJ s fr with
 | none=>
  rw [hnm] at hr
  simp only [] at hr
  simp only [JU]
  refine ai rfl ?_
  refine ai rfl ?_
  refine ⟨fun t w'=>t=.bool true/\Inv w [] [] S w',?_,?_⟩
  ·refine yl (by omega) ?_
   refine rpG ?_
   exact ⟨rfl,hI⟩
  intro t33 _ _ _ _ _ _ w'
  rintro ⟨rfl,hI⟩
  exact av (fun _=>done hI (by rw [hr]; rfl)) (fun hb=>by cases hb)
 | some q=>
  obtain ⟨nm,nx⟩:=q
  rw [hnm] at hr
  simp only [] at hr
  obtain ⟨h1,h2,h3,h4⟩:=te (by omega) hnm
  simp only [JU]
  refine ai (v:=.string (st nm)) rfl ?_
  refine ai (v:=.int .i64 (nx:Int)) rfl ?_
  refine ⟨fun t w'=>t=.bool (decide (aO (st nm)=0))/\Inv w [] [] S w',?_,?_⟩
  ·refine dU (by omega) ?_
   refine rpG ?_
   refine Run.callPure dN dP hI (cX _ S) fun w' hI=>?_
   refine bh ?_
   refine rpG ?_
   exact ⟨rfl,hI⟩
  intro t33 _ _ _ _ _ _ w'
  rintro ⟨rfl,hI⟩
  refine aN (fun hb=>?_) (fun hb=>?_)
  ·rw [if_pos (.inl hb)] at hr
   exact done hI (by rw [hr]; rfl)
  obtain ⟨word,hword⟩:∃ word,word=(decide (nm=[105,115]) || decide (nm=[109,111,100])):=⟨_,rfl⟩
  rw [<- hword] at hr
  refine ⟨fun t w'=>t=.bool word/\Inv w [] [] S w',?_,?_⟩
  ·refine rg (b:=[105,115]) ?_
   cases h5:decide (nm=[105,115])
   ·refine rpG ?_
    refine rg (b:=[109,111,100]) ?_
    refine rpG ?_
    exact ⟨by rw [hword,h5,Bool.false_or],hI⟩
   ·refine rpG ?_
    exact ⟨by rw [hword,h5,Bool.true_or],hI⟩
  intro t9 _ _ _ _ _ _ w'
  rintro ⟨rfl,hI⟩
  refine ⟨fun t w'=>t=.bool (decide (word≠decide (i<fr)) || (word && !sgn s nx 32))/\Inv w [] [] S w',?_,?_⟩
  ·refine cY ?_
   refine Hn jf ?_
   have e1:decide ((i:Int)<(fr:Int))=decide (i<fr):=by rw [decide_eq_decide]; omega
   rw [e1]
   cases h6:decide (i<fr) <;> cases word
   ·refine rpG ?_
    exact ⟨by rfl,hI⟩
   ·refine rpG ?_
    exact ⟨by rfl,hI⟩
   ·refine rpG ?_
    exact ⟨by rfl,hI⟩
   ·refine rpG ?_
    refine Run.callPure ct cw hI (cg s nx 32 S) fun w' hI=>?_
    refine bW ?_
    refine rpG ?_
    exact ⟨by simp,hI⟩
  intro t54 _ _ _ _ _ _ _ _ _ _ _ _ _ w'
  rintro ⟨rfl,hI⟩
  refine av (fun hb'=>?_) (fun hb'=>?_)
  ·rw [if_pos] at hr
   ·exact done hI (by rw [hr]; rfl)
   ·rw [Bool.or_eq_true,decide_eq_true_eq,Bool.and_eq_true,Bool.not_eq_true'] at hb'
    exact .inr hb'
  ·rw [if_neg] at hr
   ·refine ⟨fun t w'=>t=.int .i64 ((if word=true then nx+1 else nx:Nat):Int)/\Inv w [] [] S w',?_,?_⟩
    ·refine av (fun hw=>?_) (fun hw=>?_)
     ·refine bm (by omega) ?_
      exact ⟨by rw [if_pos hw]; congr 1,hI⟩
     ·exact ⟨by rw [if_neg (by rw [hw]; decide)],hI⟩
    intro t8 _ _ _ w'
    rintro ⟨rfl,hI⟩
    exact done hI (by rw [hr]; rfl)
   ·rw [Bool.or_eq_false_iff,decide_eq_false_iff_not] at hb'
    rintro (h|h|⟨h,h'⟩)
    ·exact hb h
    ·exact hb'.1 h
    ·rw [h,h'] at hb'
     simp at hb'
end
end
section
open Go Go.RowKit
theorem Inv.pubExt {w0 w:World} {X:List Nat} {A:List Item} {S:ae} {L:aV} (h:Inv w0 X (A++bB L) S w) :
  ∃ S',Inv w0 X A S' w/\Ext w0.heap.size X S S'/\Ins S' L:=by
 obtain ⟨S',h1,h2,h3,h4⟩:=h.publishAll L
 refine ⟨S',h1,⟨h2,fun b o hb=>?_⟩,h3⟩
 rcases h4 b o hb with h5|h5
 ·exact .inl h5
 ·right
  exact h.new b (by rw [bN]; exact List.mem_append_right _ h5)
theorem Inv.pub1 {w0 w:World} {X:List Nat} {A:List Item} {S:ae} {b:Nat} {o:Obj} (h:Inv w0 X (A++[.blk b o]) S w) :
  ∃ S',Inv w0 X A S' w/\Ext w0.heap.size X S S'/\S' b=some o:=by
 obtain ⟨S',h1,h2,h3⟩:=Inv.pubExt (A:=A) (L:=[(b,o)]) h
 exact ⟨S',h1,h2,h3 _ (List.mem_singleton.2 rfl)⟩
theorem Rows.monoR {α:Type} {k:Nat} {R R':List Value->α->Prop} {css:List (List Value)} {ys:List α} (h:Rows k R css ys) (hR:∀ cs y,R cs y->R' cs y):Rows k R' css ys:=⟨h.hc,h.hk,fun i h1 h2=>hR _ _ (h.hR i h1 h2)⟩
theorem Rows.one {α:Type} {k:Nat} {R:List Value->α->Prop} {cs:List Value} {y:α} (hR:R cs y) (hl:cs.length=k):Rows k R [cs] [y]:=by
 have:=(Rows.nil k R).snoc hR hl
 exact this
section
variable {P:Program} {w w0:World} {X:List Nat} {L:List Item} {S:ae} {K:Value->World->Prop}
theorem Run.call0E {f:FuncId} {fn:Func} {args:List Value} {Post:Value->List Item->ae->Prop}
  (hf:P.funcs[f]?=some fn) (hn:(fn.name == "runtime.NumGoroutine" || fn.body.isNone)=false) (h:Inv w0 X L S w) (hc:Tri P f args [] S Post)
  (hk:∀ v I' S' w',Post v I' S'->Ext w0.heap.size X S S'->Inv w0 X (L++I') S' w'->K v w'):Run P (ed (.func (.func f) #[] #[]) args) w K:=by
 refine Run.callP hf hn ((hc w h.nil.begin).mono ?_)
 rintro e w' ⟨v,I',S',rfl,hI,hE,hP⟩
 refine hk v I' S' w' hP ⟨hE.1,fun b o hb=>?_⟩ (Inv.step (A:=L) (B:=[]) (by simpa using h) hI hE.2)
 rcases hE.2 b o hb with h1|h1|h1
 ·exact .inl h1
 ·simp [bz] at h1
 ·exact .inr (.inr (Nat.le_trans h.size h1))
end
theorem Ext.trans {n:Nat} {Y:List Nat} {S S' S'':ae} (h:Ext n Y S S') (h':Ext n Y S' S''):Ext n Y S S'':=by
 refine ⟨h.1.trans h'.1,fun b o hb=>?_⟩
 rcases h'.2 b o hb with h1|h1
 ·exact h.2 b o h1
 ·exact .inr h1
section
variable {P:Program} {w w0:World} {X:List Nat} {A I:List Item} {S:ae} {K:Value->World->Prop}
theorem OX {f:FuncId} {args:List Value} {Post:Value->List Item->ae->Prop} (h:Inv w0 X (A++I) S w) (hc:Tri P f args I S Post) :
  Calls P f args.toArray w fun e w'=>∃ v I' S',e=.returned v/\Inv w0 X (A++I') S' w'/\Ext w0.heap.size X S S'/\Post v I' S':=by
 refine (hc w (h.sub (List.sublist_append_right A I)).begin).mono ?_
 rintro e w' ⟨v,I',S',rfl,hI,hE,hP⟩
 refine ⟨v,I',S',rfl,Inv.step h hI hE.2,⟨hE.1,fun b o hb=>?_⟩,hP⟩
 rcases hE.2 b o hb with h1|h1|h1
 ·exact .inl h1
 ·exact .inr (h.new b (by rw [bN]; exact List.mem_append_right _ h1))
 ·exact .inr (.inr (Nat.le_trans h.size h1))
theorem Run.callE {f:FuncId} {fn:Func} {args:List Value} {Post:Value->List Item->ae->Prop}
  (hf:P.funcs[f]?=some fn) (hn:(fn.name == "runtime.NumGoroutine" || fn.body.isNone)=false) (h:Inv w0 X (A++I) S w) (hc:Tri P f args I S Post)
  (hk:∀ v I' S' w',Post v I' S'->Ext w0.heap.size X S S'->Inv w0 X (A++I') S' w'->K v w'):Run P (ed (.func (.func f) #[] #[]) args) w K:=by
 refine Run.callP hf hn ((OX h hc).mono ?_)
 rintro e w' ⟨v,I',S',rfl,hI,hE,hP⟩
 exact hk v I' S' w' hP hE hI
end
theorem Inv.lendExt {w0 w:World} {X:List Nat} {A:List Item} {S:ae} {v:Value} {e:TypeId} {k:Nat} {css:List (List Value)} (h:Inv w0 X (A++[aP v e k css]) S w) :
  ∃ S',Ext w0.heap.size X S S'/\RowRd S' v e k css.length css.flatten/\Inv w0 X A S' w:=by
 obtain ⟨hl,ho⟩:=h.openRow
 rcases ho with ⟨rfl,h0⟩|⟨g,cap,cur,rfl,hnc,hcm,hcs,ht,hI⟩
 ·exact ⟨S,Ext.refl _ _ _,⟨hl,.inl ⟨rfl,h0⟩⟩,h.sub (List.sublist_append_left _ _)⟩
 ·obtain ⟨S',h1,h2,h3⟩:=Inv.pub1 (A:=A) hI
  exact ⟨S',h2,⟨hl,.inr ⟨g,cap,cur,rfl,h3,hnc,hcm,hcs,ht⟩⟩,h1⟩
end
end Go.Proofs.YtbocelianhcfmaaGreatDoor
