/- Bytes, numbers, names and operators in texts: spec.l1Sign and its kin. (printed by gen_byt.py) -/
import Derived.Test.YtgllldjiaglkcaaGreatDoorZDr4
import Derived.Test.YtgllldjiaglkcaaGreatDoorZDrF
namespace Go.Proofs.YtgllldjiaglkcaaGreatDoor
open Go Go.RowKit
theorem jf {s:Bs} {i:Nat} (h:i<s.length) (c:Nat):sgn s i c=decide (s[i].toNat=c):=by simp [sgn,List.getElem?_eq_getElem h]
theorem K7 {s:Bs} {i:Nat} (h:¬ i<s.length) (c:Nat):sgn s i c=false:=by simp [sgn,List.getElem?_eq_none (Nat.le_of_not_lt h)]
theorem lY {s:Bs} {i:Nat} (h:i<s.length) (a b:Nat):btw s i a b=(decide (a<=s[i].toNat) && decide (s[i].toNat<=b)):=by simp [btw,List.getElem?_eq_getElem h]
theorem Io {s:Bs} {i:Nat} (h:¬ i<s.length) (a b:Nat):btw s i a b=false:=by simp [btw,List.getElem?_eq_none (Nat.le_of_not_lt h)]
theorem yh {s:Bs} {i a b:Nat} (h:btw s i a b=true):i<s.length:=by
 rcases Nat.lt_or_ge i s.length with h1|h1
 ·exact h1
 ·rw [Io (by omega)] at h; cases h
theorem fV {s:Bs} {i c:Nat} (h:sgn s i c=true):i<s.length:=by
 rcases Nat.lt_or_ge i s.length with h1|h1
 ·exact h1
 ·rw [K7 (by omega)] at h; cases h
section
attribute [local irreducible] Run CondV ai az
theorem bL (s:Bs) (i c:Nat) (S:ad):Pure Tryz.prog H4 [.string (st s),.int .i64 (i:Int),.int .u8 (c:Int)] S (.bool (sgn s i c)):=by
 intro w hI
 refine vM.2 ?_
 dsimp only[vM,fe]
 refine ml (by omega) ?_
 refine rpG ?_
 refine ed aF ?_
 by_cases h:i<s.length
 ·refine zR (by omega) ?_
  refine rpG ?_
  refine dk aF h ?_
  refine aZ ?_
  refine rpG ?_
  refine done hI ?_
  rw [jf h]
  congr 1
  rw [decide_eq_decide]
  omega
 ·refine dG (by omega) ?_
  refine rpG ?_
  exact done hI (by rw [K7 h])
theorem fB (s:Bs) (i:Nat) (S:ad):Pure Tryz.prog Gf [.string (st s),.int .i64 (i:Int)] S (.bool (dig s i)):=by
 intro w hI
 refine tz.2 ?_
 dsimp only[tz,aX]
 refine ml (by omega) ?_
 refine rpG ?_
 refine ed aF ?_
 by_cases h:i<s.length
 ·refine zR (by omega) ?_
  refine rpG ?_
  refine dk aF h ?_
  rw [dig,lY h]
  by_cases h2:48<=s[i].toNat
  ·refine ml (by omega) ?_
   refine rpG ?_
   refine dk aF h ?_
   refine dO ?_
   refine rpG ?_
   refine done hI ?_
   rw [decide_eq_true h2,Bool.true_and]
   congr 1
   rw [decide_eq_decide]
   omega
  ·refine ut (by omega) ?_
   refine rpG ?_
   exact done hI (by rw [decide_eq_false h2,Bool.false_and])
 ·refine dG (by omega) ?_
  refine rpG ?_
  exact done hI (by rw [dig,Io h])
theorem mB (s:Bs) (i:Nat) (S:ad):Pure Tryz.prog FT [.string (st s),.int .i64 (i:Int)] S (.bool (sml s i)):=by
 intro w hI
 refine sS.2 ?_
 dsimp only[sS,aX]
 refine ml (by omega) ?_
 refine rpG ?_
 refine ed aF ?_
 by_cases h:i<s.length
 ·refine zR (by omega) ?_
  refine rpG ?_
  refine dk aF h ?_
  rw [sml,lY h]
  by_cases h2:97<=s[i].toNat
  ·refine ml (by omega) ?_
   refine rpG ?_
   refine dk aF h ?_
   refine dO ?_
   refine rpG ?_
   refine done hI ?_
   rw [decide_eq_true h2,Bool.true_and]
   congr 1
   rw [decide_eq_decide]
   omega
  ·refine ut (by omega) ?_
   refine rpG ?_
   exact done hI (by rw [decide_eq_false h2,Bool.false_and])
 ·refine dG (by omega) ?_
  refine rpG ?_
  exact done hI (by rw [sml,Io h])
end
theorem Jh {s:Bs} {i:Nat} (h:i<s.length):dig s i=true↔48<=s[i].toNat/\s[i].toNat<=57:=by
 rw [dig,lY h,Bool.and_eq_true,decide_eq_true_eq,decide_eq_true_eq]
theorem JZ {d:Bs} {j:Nat} (h:j<d.length) (m:Nat):Bw (d.drop j) m=Bw (d.drop (j+1)) (m * 10+(d[j].toNat - 48)):=by
 rw [List.drop_eq_getElem_cons h,Bw]
section
attribute [local irreducible] Run CondV ai az
theorem CX (d:Bs) (hd:∀ i,i<d.length->dig d i=true) (h0:0<d.length) (h4:d.length<=4) (hz:¬ (sgn d 0 48=true/\1<d.length)) (S:ad) :
  Pure Tryz.prog HG [.string (st d)] S (.tuple #[.int .i64 ((Bw d 0:Nat):Int),.bool true]):=by
 intro w hI
 refine vE.2 ?_
 dsimp only[vE,aD]
 have hd0:=(Jh h0).1 (hd 0 h0)
 refine ⟨fun t w'=>t=.bool false/\Inv w [] [] S w',?_,?_⟩
 ·refine ed aF ?_
  refine Hk (by omega) ?_
  refine rpG ?_
  refine dk (i:=0) aF h0 ?_
  refine du (by omega) ?_
  refine rpG ?_
  exact ⟨rfl,hI⟩
 intro t4 _ _ _ _ _ _ _ _ w'
 rintro ⟨rfl,hI⟩
 refine ⟨fun t w'=>t=.string (st d)/\Inv w [] [] S w',?_,?_⟩
 ·exact aw (fun hb=>by cases hb) (fun _=>⟨rfl,hI⟩)
 intro t0 _ _ _ w'
 rintro ⟨rfl,hI⟩
 refine ⟨fun t w'=>t=.bool false/\Inv w [] [] S w',?_,?_⟩
 ·refine ed aF ?_
  refine du (by omega) ?_
  refine rpG ?_
  refine ed aF ?_
  refine jg (by omega) ?_
  refine rpG ?_
  refine dk (i:=0) aF h0 ?_
  by_cases hs:d[0].toNat=48
  ·refine eC (by omega) ?_
   refine rpG ?_
   refine ed aF ?_
   refine jg (by
    have:¬ 1<d.length:=fun h=>hz ⟨by rw [jf h0,hs]; rfl,h⟩
    omega) ?_
   refine rpG ?_
   exact ⟨rfl,hI⟩
  ·refine du (by omega) ?_
   refine rpG ?_
   exact ⟨rfl,hI⟩
 intro t38 _ _ _ _ _ _ _ _ _ _ _ _ _ _ _ _ _ _ _ _ w'
 rintro ⟨rfl,hI⟩
 refine aw (fun hb=>by cases hb) (fun _=>?_)
 refine ⟨fun i n w'=>∃ j m:Nat,j<=d.length/\i=.int .i64 j/\n=.int .i64 m/\m<10 ^ j/\Bw (d.drop j) m=Bw d 0/\Inv w [] [] S w',fun i _ _=>d.length - (intOf i).toNat,
  ⟨0,0,Nat.zero_le _,rfl,rfl,by simp,rfl,hI⟩,?_⟩
 intro t6 _ _ t5 _ _ _ _ _ _ _ _ _ _ _ _ _ _ _ _ _ _ _ _ _ _ _ _ w'
 rintro ⟨j,m,hj,rfl,rfl,hm,hval,hI⟩
 have hp:10 ^ j<=10 ^ 4:=Nat.pow_le_pow_right (by omega) (by omega)
 refine ed aF ?_
 refine bI ?_
 refine aI (fun hji=>?_) (fun hji=>?_)
 ·have hj':j<d.length:=by omega
  have hdj:=(Jh hj').1 (hd j hj')
  refine ⟨fun t w'=>t=.bool false/\Inv w [] [] S w',?_,?_⟩
  ·refine dk aF hj' ?_
   refine dG (by omega) ?_
   refine rpG ?_
   refine dk aF hj' ?_
   refine jg (by omega) ?_
   refine rpG ?_
   exact ⟨rfl,hI⟩
  intro t54 _ _ _ _ _ _ _ _ _ w'
  rintro ⟨rfl,hI⟩
  refine aw (fun hb=>by cases hb) (fun _=>?_)
  refine Aq (by omega) ?_
  refine dk aF hj' ?_
  refine Mw (c:=((d[j].toNat - 48:Nat):Int)) ?_ ?_
  ·rw [IntWalk.u8_in _ (by omega)]; omega
  refine n9 eL fl (IntWalk.i64_in _ (by omega)) ?_
  refine bq (by omega) ?_
  refine bq (by omega) ?_
  refine ⟨⟨j+1,m * 10+(d[j].toNat - 48),hj',rfl,?_,?_,?_,hI⟩,by simp [intOf]; omega⟩
  ·congr 1
  ·rw [Nat.pow_succ]; omega
  ·rw [<- hval,JZ hj']
 ·have:j=d.length:=by omega
  subst this
  rw [List.drop_length,Bw] at hval
  refine ⟨fun t w'=>t=.int .i64 m/\Inv w [] [] S w',aw (fun hb=>by cases hb) (fun _=>⟨rfl,hI⟩),?_⟩
  intro t5 _ _ _ w'
  rintro ⟨rfl,hI⟩
  exact done hI (by rw [hval])
abbrev CK (k n:Int):Value:=.agg #[.int .i64 k,.int .i64 n,.string ⟨#[]⟩,.slice none 0 0]
theorem nX {w:World} {K:Value->World->Prop} {k n:Int} (hk:K (CK k n) w):Run Tryz.prog (bJ ab [(0,.int .i64 k),(1,.int .i64 n)]) w K:=by
 refine Run.of (v:=CK k n) (w':=w) ?_ hk
 unfold bJ
 rw [Sem.run_bind,run_build w ab _ #[.int .i64 k,.int .i64 n,.string ⟨#[]⟩,.slice none 0 0] (by kernel_rfl),Result.andThen_ok]
 rfl
theorem qC (n:Int) (S:ad):Pure Tryz.prog KP [.int .i64 n] S (CK 1 n):=by
 intro w hI
 refine zz.2 ?_
 dsimp only[zz,aD]
 refine aM hI aU fun b w' hI=>?_
 refine nX ?_
 refine av hI 0 rfl ac rfl rfl (by simp [Value.oneCell']) fun w' hI=>?_
 refine bl hI 0 ac rfl rfl ?_
 exact done hI rfl
theorem kH (n:Int) (S:ad):Pure Tryz.prog KI [.int .i64 n] S (CK 2 n):=by
 intro w hI
 refine Ad.2 ?_
 dsimp only[Ad,aD]
 refine aM hI aU fun b w' hI=>?_
 refine nX ?_
 refine av hI 0 rfl ac rfl rfl (by simp [Value.oneCell']) fun w' hI=>?_
 refine bl hI 0 ac rfl rfl ?_
 exact done hI rfl
end
theorem EN (s:Bs) (n e:Nat):pP s (n+1) e=if dig s e=true then pP s n (e+1) else e:=rfl
theorem Ei (s:Bs):∀ (n e:Nat),e<=pP s n e/\pP s n e<=e+n
 | 0,e=>by simp [pP]
 | n+1,e=>by
  rw [pP]
  split
  ·have:=Ei s n (e+1); omega
  ·omega
theorem sv (s:Bs):∀ (n e i:Nat),e<=i->i<pP s n e->dig s i=true
 | 0,e,i,h1,h2=>by simp [pP] at h2; omega
 | n+1,e,i,h1,h2=>by
  rw [pP] at h2
  split at h2
  ·rename_i h
   by_cases he:e=i
   ·subst he; exact h
   ·exact sv s n (e+1) i (by omega) h2
  ·omega
theorem DB {s:Bs} {a b i:Nat} (hi:i<(cut s a b).length):∃ h:a+i<s.length,(cut s a b)[i]=s[a+i]/\a+i<b:=by
 have h1:(cut s a b).length=min b s.length - a:=by simp [cut]
 refine ⟨by omega,?_,by omega⟩
 simp [cut]
theorem Ew {s:Bs} {a b:Nat} (hb:b<=s.length):(cut s a b).length=b - a:=by simp [cut]; omega
theorem NS {s:Bs} {a b i:Nat} (hi:i<(cut s a b).length):dig (cut s a b) i=dig s (a+i):=by
 obtain ⟨h,e,_⟩:=DB hi
 rw [dig,dig,lY hi,lY h,e]
section
attribute [local irreducible] Run CondV ai az
theorem ye {s:Bs} {i e:Nat} {t:T} (hn:L7 s i=some (t,e)) (hi:i<=100000) (S:ad) :
  ∃ n:Int,inI n/\t=.mk 2 n emptyB []/\i<=e/\e<=i+5/\Pure Tryz.prog Dk [.string (st s),.int .i64 (i:Int)] S (.tuple #[CK 2 n,.int .i64 (e:Int)]):=by
 unfold L7 at hn
 obtain ⟨fr,hfr⟩:∃ fr,fr=if sgn s i 45=true then i+1 else i:=⟨_,rfl⟩
 simp only [<- hfr] at hn
 obtain ⟨en,hen⟩:∃ en,en=pP s 4 fr:=⟨_,rfl⟩
 simp only [<- hen] at hn
 have hle:=Ei s 4 fr
 rw [<- hen] at hle
 have hfi:i<=fr/\fr<=i+1:=by rw [hfr]; split <;> omega
 split at hn
 ·cases hn
 rename_i hc
 simp only [not_or] at hc
 obtain ⟨hc1,hc2,hc3,hc4⟩:=hc
 simp only [Option.some.injEq,Prod.mk.injEq] at hn
 obtain ⟨rfl,rfl⟩:=hn
 have hdig:∀ j,j<(cut s fr en).length->dig (cut s fr en) j=true:=fun j hj=>by
  obtain ⟨h1,h2,h3⟩:=DB hj
  rw [NS hj]
  exact sv s 4 fr _ (by omega) (by rw [<- hen]; exact h3)
 have hlen0:0<(cut s fr en).length:=by
  cases he:cut s fr en with
  | nil=>exact absurd he hc1
  | cons a l=>simp
 have hen2:fr<en:=by
  obtain ⟨_,_,h3⟩:=DB hlen0
  omega
 have hens:en<=s.length:=by
  have:=sv s 4 fr (en - 1) (by omega) (by rw [<- hen]; omega)
  have:=yh this
  omega
 refine ⟨_,?_,rfl,by omega,by omega,?_⟩
 ·unfold inI; split <;> omega
 intro w hI
 refine qJ.2 ?_
 dsimp only[qJ,aX]
 refine aM hI aU fun b4 w' hI=>?_
 refine ⟨fun t w'=>t=.int .i64 (fr:Int)/\Inv w [] [.blk b4 (.cells #[.int .i64 0,.int .i64 0,.string ⟨#[]⟩,.slice none 0 0] ab)] S w',?_,?_⟩
 ·refine Run.callPure bZ bY hI (bL s i 45 S) fun w' hI=>?_
  refine aw (fun hb=>?_) (fun hb=>?_)
  ·refine bq (by omega) ?_
   rw [if_pos hb] at hfr
   exact ⟨by rw [hfr]; congr 1,hI⟩
  ·rw [if_neg (by rw [hb]; decide)] at hfr
   exact ⟨by rw [hfr],hI⟩
 intro t6 _ _ _ _ _ w'
 rintro ⟨rfl,hI⟩
 refine ⟨fun t w'=>∃ j:Nat,t=.int .i64 (j:Int)/\fr<=j/\j<=fr+4/\pP s (fr+4 - j) j=en/\Inv w [] [.blk b4 (.cells #[.int .i64 0,.int .i64 0,.string ⟨#[]⟩,.slice none 0 0] ab)] S w',fun t _=>fr+4 - (intOf t).toNat,
  ⟨fr,rfl,Nat.le_refl _,by omega,by rw [Nat.add_sub_cancel_left]; exact hen.symm,hI⟩,?_⟩
 intro t6 _ _ _ _ _ _ _ _ _ _ _ w'
 rintro ⟨j,rfl,hj1,hj2,hj3,hI⟩
 refine ⟨fun t w'=>t=.bool (dig s j && decide (j<fr+4))/\Inv w [] [.blk b4 (.cells #[.int .i64 0,.int .i64 0,.string ⟨#[]⟩,.slice none 0 0] ab)] S w',?_,?_⟩
 ·refine Run.callPure iK iO hI (fB s j S) fun w' hI=>?_
  cases hdj:dig s j
  ·refine rpG ?_
   exact ⟨rfl,hI⟩
  ·refine rpG ?_
   refine bq (by omega) ?_
   refine bI ?_
   refine rpG ?_
   refine ⟨?_,hI⟩
   rw [Bool.true_and]
   congr 1
   rw [decide_eq_decide]
   omega
 intro t25 _ _ _ _ _ _ _ _ w'
 rintro ⟨rfl,hI⟩
 refine aw (fun hb=>?_) (fun hb=>?_)
 ·rw [Bool.and_eq_true,decide_eq_true_eq] at hb
  refine bq (by omega) ?_
  refine ⟨⟨j+1,rfl,by omega,by omega,?_,hI⟩,by simp [intOf]; omega⟩
  rw [<- hj3,show fr+4 - j=(fr+4 - (j+1))+1 by omega,EN,if_pos hb.1]
 ·have hje:j=en:=by
   rw [<- hj3]
   by_cases h4:j=fr+4
   ·rw [h4,Nat.sub_self]; rfl
   ·rw [show fr+4 - j=(fr+4 - (j+1))+1 by omega,EN,if_neg]
    intro hd
    rw [hd,Bool.true_and,decide_eq_false_iff_not] at hb
    omega
  subst hje
  refine zj aF (by omega) hens ?_
  refine Run.callPure Fz GG hI (CX _ hdig hlen0 (by rw [Ew hens]; omega) hc2 S) fun w' hI=>?_
  obtain ⟨n,hn⟩:∃ n,n=Bw (cut s fr j) 0:=⟨_,rfl⟩
  rw [<- hn]
  refine al (v:=.int .i64 (n:Int)) rfl ?_
  refine al (v:=.bool true) rfl ?_
  simp only [<- hn] at hc3 hc4 ⊢
  refine ⟨fun t w'=>t=.bool false/\Inv w [] [.blk b4 (.cells #[.int .i64 0,.int .i64 0,.string ⟨#[]⟩,.slice none 0 0] ab)] S w',?_,?_⟩
  ·refine bK ?_
   refine rpG ?_
   by_cases hfi':i<fr
   ·refine Hk (by omega) ?_
    refine rpG ?_
    refine aZ ?_
    have:¬ n=0:=fun h=>hc3 ⟨hfi',h⟩
    rw [decide_eq_false (by omega)]
    refine rpG ?_
    refine jg (by omega) ?_
    refine rpG ?_
    exact ⟨rfl,hI⟩
   ·refine jg (by omega) ?_
    refine rpG ?_
    refine jg (by omega) ?_
    refine rpG ?_
    exact ⟨rfl,hI⟩
  intro t50 _ _ _ _ _ _ _ _ _ _ _ _ _ _ w'
  rintro ⟨rfl,hI⟩
  refine aw (fun hb=>by cases hb) (fun _=>?_)
  refine ⟨fun t w'=>t=.int .i64 (if i<fr then -(n:Int) else n)/\Inv w [] [.blk b4 (.cells #[.int .i64 0,.int .i64 0,.string ⟨#[]⟩,.slice none 0 0] ab)] S w',?_,?_⟩
  ·refine dB ?_
   refine aI (fun hb=>?_) (fun hb=>?_)
   ·refine OZ (by omega) ?_
    exact ⟨by rw [if_pos (by omega)],hI⟩
   ·exact ⟨by rw [if_neg (by omega)],hI⟩
  intro t8 _ _ _ _ _ w'
  rintro ⟨rfl,hI⟩
  refine Run.callPure qT rn hI (kH _ S) fun w' hI=>?_
  refine av hI 0 rfl ac rfl rfl (by simp [Value.oneCell']) fun w' hI=>?_
  refine bl hI 0 ac rfl rfl ?_
  exact done hI rfl
end
theorem RdSl.some1 {α:Type} {S:ad} {k:Nat} {R:List Value->α->Prop} {v:Value} {xs:List α} (h:RdSl S k R v xs) (h0:0<xs.length):∃ b o cap,v=.slice (some ⟨b,o,none⟩) xs.length cap:=by
 obtain ⟨b,o,cap,c,E,fz,e,_,_⟩:=h.at_ h0
 exact ⟨b,o,cap,e⟩
theorem EO (s:Bs) (n e:Nat):xk s (n+1) e=if sml s e=true then xk s n (e+1) else e:=rfl
def Jw (o:Option (Bs × Nat)):Value:=match o with
 | none=>.tuple #[.string ⟨#[]⟩,.int .i64 (-1)]
 | some (n,e)=>.tuple #[.string (st n),.int .i64 (e:Int)]
theorem Hf (s:Bs) (i:Nat) {j:Nat} (h:j<signs.length) (b:Bs):gA s i (signs.drop j) b=gA s i (signs.drop (j+1)) (if decide (i+signs[j].size<=s.length)=true/\cut s i (i+signs[j].size)=bs signs[j]/\b.length<signs[j].size then bs signs[j] else b):=by
 rw [List.drop_eq_getElem_cons h,gA]
theorem EL:∀ x∈signs,x.size<=3:=by decide
section
attribute [local irreducible] Run CondV ai az
theorem rN {s:Bs} {i:Nat} (hi:i<s.length) (hs:s.length<=100000) (S:ad):Pure Tryz.prog HD [.string (st s),.int .i64 (i:Int)] S (Jw (rZ s i)):=by
 intro w hI
 refine vU.2 ?_
 dsimp only[vU,aX]
 obtain ⟨E,hE⟩:∃ E,E=xk s (s.length - i) i:=⟨_,rfl⟩
 have hnm:rZ s i=if i+6<E then none else if i<E then some (cut s i E,E) else if gA s i signs []=[] then none else some (gA s i signs [],i+(gA s i signs []).length):=by
  rw [rZ,<- hE]
 refine ⟨fun t w'=>∃ e:Nat,t=.int .i64 (e:Int)/\i<=e/\e<=s.length/\xk s (s.length - e) e=E/\Inv w [] [] S w',fun t _=>s.length - (intOf t).toNat,⟨i,rfl,Nat.le_refl _,by omega,hE.symm,hI⟩,?_⟩
 intro t6 _ _ _ _ _ w'
 rintro ⟨e,rfl,he1,he2,he3,hI⟩
 refine Run.callPure tY rT hI (mB s e S) fun w' hI=>?_
 refine aw (fun hb=>?_) (fun hb=>?_)
 ·have hlt:=yh hb
  refine bq (by omega) ?_
  refine ⟨⟨e+1,rfl,by omega,by omega,?_,hI⟩,by simp [intOf]; omega⟩
  rw [<- he3,show s.length - e=(s.length - (e+1))+1 by omega,EO,if_pos hb]
 have heE:e=E:=by
  rw [<- he3]
  by_cases h:e=s.length
  ·rw [h,Nat.sub_self,xk]
  ·rw [show s.length - e=(s.length - (e+1))+1 by omega,EO,if_neg (by rw [hb]; decide)]
 subst heE
 refine bq (by omega) ?_
 refine dB ?_
 refine aI (fun hb=>done hI (by rw [hnm,if_pos (by omega)]; rfl)) (fun hb=>?_)
 rw [if_neg (by omega)] at hnm
 refine dB ?_
 refine aI (fun hb=>?_) (fun hb=>?_)
 ·refine zj aF (by omega) (by omega) ?_
  exact done hI (by rw [hnm,if_pos (by omega)]; rfl)
 rw [if_neg (by omega)] at hnm
 refine Run.call0 sH sU hI (qd S) fun v I' S1 w'=>?_
 rintro ⟨rfl,hle,hr⟩ _ hI
 obtain ⟨b,o,cap,rfl⟩:=RdSl.some1 hr (by decide)
 refine ⟨fun t u w'=>∃ (j:Nat) (best:Bs),j<=signs.length/\t=.int .i64 (j:Int)/\u=.string (st best)/\best.length<=3/\gA s i (signs.drop j) best=gA s i signs []/\Inv w [] [] S1 w',fun t _ _=>signs.length - (intOf t).toNat,
  ⟨0,[],Nat.zero_le _,rfl,rfl,by simp,rfl,hI.nil⟩,?_⟩
 intro t9 _ _ t7 _ _ _ _ t65 t64 t63 t62 t61 t60 t59 t58 t57 t56 t55 t54 t53 t52 t51 t50 t49 t48 t47 t46 t45 t44 t43 t42 t41 _ _ _ _ _ _ _ _ _ _ w'
 rintro ⟨j,best,hj0,rfl,rfl,hbl,hbest,hI⟩
 have h15:signs.length=15:=rfl
 refine aG hr bF ?_
 refine bI ?_
 refine aI (fun hji=>?_) (fun hji=>?_)
 ·have hj:j<signs.length:=by omega
  obtain ⟨x,hx⟩:∃ x,x=signs[j]:=⟨_,rfl⟩
  have hx3:x.size<=3:=by rw [hx]; exact EL _ (List.getElem_mem hj)
  obtain ⟨b',o',cap',c,E',fz,hsl,hS,hR⟩:=hr.at_ hj
  cases hsl
  have hcx:c[o+j * 1]?=some (.string x):=by rw [hx]; exact aO hR 0 _ rfl
  rw [Hf s i hj,<- hx] at hbest
  refine ⟨fun u w'=>∃ best',u=.string (st best')/\best'.length<=3/\gA s i (signs.drop (j+1)) best'=gA s i signs []/\Inv w [] [] S1 w',?_,?_⟩
  ·refine aH bF hj ?_
   refine bX aL ((hI.cellS hS).trans hcx) ?_
   refine gf aF ?_
   by_cases hlen:i+x.size<=s.length
   ·cases hq:decide (st (cut s i (i+x.size))=x)
    ·skip
     refine ⟨fun D LH MW CH yP yz xV yc xZ yE yK Cl Co BS BR BK Cn yQ yG uK Jq EH JS Jk Jf EG w_=>Fx D 0 [EG=.int .i64 (i:Int),Jf=.int .i64 (x.size:Int),Jk=.int .i64 ((i+x.size:Nat):Int),JS=.string (st s),EH=.int .i64 (s.length:Int),Jq=.bool true,uK=.bool true,yG=.string (st s),yQ=.int .i64 (i:Int),Cn=.int .i64 (i:Int),BK=.int .i64 (x.size:Int),BR=.int .i64 ((i+x.size:Nat):Int),BS=.string (st (cut s i (i+x.size))),Co=.slice (some ⟨b,o,none⟩) signs.length cap,Cl=.int .i64 (j:Int),yK=.pointer (some ⟨b,o+j * 1,none⟩),yE=.string x,xZ=.bool false,yc=.bool false,xV=.bool false,yz=undef,yP=undef,CH=undef,MW=undef,LH=.bool false]/\Inv w [] [] S1 w_,⟨Fx.nil _ _,hI.draw⟩,⟨?_,?_,?_,?_,?_,?_,?_,?_,?_,?_,?_,?_,?_,?_,?_,?_,?_,?_,?_,?_,?_,?_,?_,?_,?_,trivial⟩,?_⟩
     all_goals (intro D bx; intros; rename_i LH MW CH yP yz xV yc xZ yE yK Cl Co BS BR BK Cn yQ yG uK Jq EH JS Jk Jf EG w_ hA_; have hF_:=hA_.1; obtain ⟨⟨cr,cq,ct,cu,cz,cB,bP,cT,dw,fc,cE,cY,dS,fQ,gx,ir,jD,l6,pS,ic,rL,tU,sO,uM,FY,_⟩,hI⟩:=hA_)
     ·exact ⟨hF_.set 0 rfl,hI⟩
     ·exact ⟨hF_.set 1 rfl,hI⟩
     ·obtain rfl:=cr ‹_›
      obtain rfl:=cq ‹_›
      refine bq (by omega) ?_
      exact ⟨hF_.set 2 rfl,hI⟩
     ·exact ⟨hF_.set 3 rfl,hI⟩
     ·obtain rfl:=cu ‹_›
      refine ed aF ?_
      exact ⟨hF_.set 4 rfl,hI⟩
     ·obtain rfl:=ct ‹_›
      obtain rfl:=cz ‹_›
      refine CS (by omega) ?_
      exact ⟨hF_.set 5 rfl,hI⟩
     ·obtain rfl:=cB ‹_›
      exact ⟨hF_.set 6 rfl,hI⟩
     ·obtain rfl:=bP ‹_›
      refine bi ?_
      exact ⟨hF_.set 7 rfl,hI⟩
     ·obtain rfl:=bP ‹_›
      refine bi ?_
      exact ⟨hF_.set 8 rfl,hI⟩
     ·obtain rfl:=bP ‹_›
      refine bi ?_
      exact ⟨hF_.set 9 rfl,hI⟩
     ·obtain rfl:=bP ‹_›
      refine bi ?_
      exact ⟨hF_.set 10 rfl,hI⟩
     ·obtain rfl:=fc ‹_›
      obtain rfl:=cE ‹_›
      obtain rfl:=bP ‹_›
      refine bi ?_; refine bq (by omega) ?_
      exact ⟨hF_.set 11 rfl,hI⟩
     ·obtain rfl:=cT ‹_›
      obtain rfl:=dw ‹_›
      obtain rfl:=cY ‹_›
      obtain rfl:=bP ‹_›
      refine bi ?_; refine zj aF (by omega) (by omega) ?_
      exact ⟨hF_.set 12 rfl,hI⟩
     ·obtain rfl:=bP ‹_›
      refine bi ?_
      exact ⟨hF_.set 13 rfl,hI⟩
     ·obtain rfl:=bP ‹_›
      refine bi ?_
      exact ⟨hF_.set 14 rfl,hI⟩
     ·obtain rfl:=fQ ‹_›
      obtain rfl:=gx ‹_›
      obtain rfl:=bP ‹_›
      refine bi ?_; refine aH bF hj ?_
      exact ⟨hF_.set 15 rfl,hI⟩
     ·obtain rfl:=ir ‹_›
      obtain rfl:=bP ‹_›
      refine bi ?_; refine bX aL ((hI.cellS hS).trans hcx) ?_
      exact ⟨hF_.set 16 rfl,hI⟩
     ·obtain rfl:=dS ‹_›
      obtain rfl:=jD ‹_›
      obtain rfl:=bP ‹_›
      refine bi ?_; refine bg ?_; rw [hq]
      exact ⟨hF_.set 17 rfl,hI⟩
     ·obtain rfl:=bP ‹_›
      obtain rfl:=l6 ‹_›
      refine xQ ?_
      exact ⟨hF_.set 18 rfl,hI⟩
     ·obtain rfl:=pS ‹_›
      exact ⟨hF_.set 19 rfl,hI⟩
     ·obtain rfl:=ic ‹_›
      refine cC (c:=false) (b:=true) (by decide) ?_
      exact ⟨hF_.set 20 rfl,hI⟩
     ·obtain rfl:=ic ‹_›
      refine cC (c:=false) (b:=true) (by decide) ?_
      exact ⟨hF_.set 21 rfl,hI⟩
     ·obtain rfl:=tU ‹_›
      obtain rfl:=ic ‹_›
      refine cC (c:=false) (b:=true) (by decide) ?_
      exact ⟨hF_.set 22 rfl,hI⟩
     ·obtain rfl:=rL ‹_›
      obtain rfl:=sO ‹_›
      obtain rfl:=ic ‹_›
      refine cC (c:=false) (b:=true) (by decide) ?_
      exact ⟨hF_.set 23 rfl,hI⟩
     ·obtain rfl:=ic ‹_›
      obtain rfl:=uM ‹_›
      refine pM ?_
      exact ⟨hF_.set 24 rfl,hI⟩
     obtain ⟨rfl,rfl,rfl,rfl,rfl,rfl,rfl,rfl,rfl,rfl,rfl,rfl,rfl,rfl,rfl,rfl,rfl,rfl,rfl,rfl,rfl,rfl,rfl,rfl,rfl,_⟩:=hF_.all
     clear hF_ cr cq ct cu cz cB bP cT dw fc cE cY dS fQ gx ir jD l6 pS ic rL tU sO uM FY
     refine aw (fun hb=>by cases hb) (fun _=>?_)
     refine ⟨best,rfl,hbl,?_,hI⟩
     rw [if_neg] at hbest
     ·exact hbest
     ·rintro ⟨_,h2,_⟩
      rw [decide_eq_false_iff_not] at hq
      exact hq (by rw [h2])
    ·rw [decide_eq_true_eq] at hq
     have hq':=hq
     have hq:decide (st (cut s i (i+x.size))=x)=true:=decide_eq_true hq'
     skip
     refine ⟨fun D LH MW CH yP yz xV yc xZ yE yK Cl Co BS BR BK Cn yQ yG uK Jq EH JS Jk Jf EG w_=>Fx D 0 [EG=.int .i64 (i:Int),Jf=.int .i64 (x.size:Int),Jk=.int .i64 ((i+x.size:Nat):Int),JS=.string (st s),EH=.int .i64 (s.length:Int),Jq=.bool true,uK=.bool true,yG=.string (st s),yQ=.int .i64 (i:Int),Cn=.int .i64 (i:Int),BK=.int .i64 (x.size:Int),BR=.int .i64 ((i+x.size:Nat):Int),BS=.string (st (cut s i (i+x.size))),Co=.slice (some ⟨b,o,none⟩) signs.length cap,Cl=.int .i64 (j:Int),yK=.pointer (some ⟨b,o+j * 1,none⟩),yE=.string x,xZ=.bool true,yc=.bool true,xV=.bool true,yz=.int .i64 (x.size:Int),yP=.string (st best),CH=.int .i64 (best.length:Int),MW=.bool (decide ((best.length:Int)<(x.size:Int))),LH=.bool (decide ((best.length:Int)<(x.size:Int)))]/\Inv w [] [] S1 w_,⟨Fx.nil _ _,hI.draw⟩,⟨?_,?_,?_,?_,?_,?_,?_,?_,?_,?_,?_,?_,?_,?_,?_,?_,?_,?_,?_,?_,?_,?_,?_,?_,?_,trivial⟩,?_⟩
     all_goals (intro D bx; intros; rename_i LH MW CH yP yz xV yc xZ yE yK Cl Co BS BR BK Cn yQ yG uK Jq EH JS Jk Jf EG w_ hA_; have hF_:=hA_.1; obtain ⟨⟨cr,cq,ct,cu,cz,cB,bP,cT,dw,fc,cE,cY,dS,fQ,gx,ir,jD,l6,pS,ic,rL,tU,sO,uM,FY,_⟩,hI⟩:=hA_)
     ·exact ⟨hF_.set 0 rfl,hI⟩
     ·exact ⟨hF_.set 1 rfl,hI⟩
     ·obtain rfl:=cr ‹_›
      obtain rfl:=cq ‹_›
      refine bq (by omega) ?_
      exact ⟨hF_.set 2 rfl,hI⟩
     ·exact ⟨hF_.set 3 rfl,hI⟩
     ·obtain rfl:=cu ‹_›
      refine ed aF ?_
      exact ⟨hF_.set 4 rfl,hI⟩
     ·obtain rfl:=ct ‹_›
      obtain rfl:=cz ‹_›
      refine CS (by omega) ?_
      exact ⟨hF_.set 5 rfl,hI⟩
     ·obtain rfl:=cB ‹_›
      exact ⟨hF_.set 6 rfl,hI⟩
     ·obtain rfl:=bP ‹_›
      refine bi ?_
      exact ⟨hF_.set 7 rfl,hI⟩
     ·obtain rfl:=bP ‹_›
      refine bi ?_
      exact ⟨hF_.set 8 rfl,hI⟩
     ·obtain rfl:=bP ‹_›
      refine bi ?_
      exact ⟨hF_.set 9 rfl,hI⟩
     ·obtain rfl:=bP ‹_›
      refine bi ?_
      exact ⟨hF_.set 10 rfl,hI⟩
     ·obtain rfl:=fc ‹_›
      obtain rfl:=cE ‹_›
      obtain rfl:=bP ‹_›
      refine bi ?_; refine bq (by omega) ?_
      exact ⟨hF_.set 11 rfl,hI⟩
     ·obtain rfl:=cT ‹_›
      obtain rfl:=dw ‹_›
      obtain rfl:=cY ‹_›
      obtain rfl:=bP ‹_›
      refine bi ?_; refine zj aF (by omega) (by omega) ?_
      exact ⟨hF_.set 12 rfl,hI⟩
     ·obtain rfl:=bP ‹_›
      refine bi ?_
      exact ⟨hF_.set 13 rfl,hI⟩
     ·obtain rfl:=bP ‹_›
      refine bi ?_
      exact ⟨hF_.set 14 rfl,hI⟩
     ·obtain rfl:=fQ ‹_›
      obtain rfl:=gx ‹_›
      obtain rfl:=bP ‹_›
      refine bi ?_; refine aH bF hj ?_
      exact ⟨hF_.set 15 rfl,hI⟩
     ·obtain rfl:=ir ‹_›
      obtain rfl:=bP ‹_›
      refine bi ?_; refine bX aL ((hI.cellS hS).trans hcx) ?_
      exact ⟨hF_.set 16 rfl,hI⟩
     ·obtain rfl:=dS ‹_›
      obtain rfl:=jD ‹_›
      obtain rfl:=bP ‹_›
      refine bi ?_; refine bg ?_; rw [hq]
      exact ⟨hF_.set 17 rfl,hI⟩
     ·obtain rfl:=bP ‹_›
      obtain rfl:=l6 ‹_›
      refine xQ ?_
      exact ⟨hF_.set 18 rfl,hI⟩
     ·obtain rfl:=pS ‹_›
      exact ⟨hF_.set 19 rfl,hI⟩
     ·obtain rfl:=ic ‹_›
      refine bi ?_
      exact ⟨hF_.set 20 rfl,hI⟩
     ·obtain rfl:=ic ‹_›
      refine bi ?_
      exact ⟨hF_.set 21 rfl,hI⟩
     ·obtain rfl:=tU ‹_›
      obtain rfl:=ic ‹_›
      refine bi ?_; refine ed aF ?_
      exact ⟨hF_.set 22 rfl,hI⟩
     ·obtain rfl:=rL ‹_›
      obtain rfl:=sO ‹_›
      obtain rfl:=ic ‹_›
      refine bi ?_; refine dB ?_
      exact ⟨hF_.set 23 rfl,hI⟩
     ·obtain rfl:=ic ‹_›
      obtain rfl:=uM ‹_›
      refine xQ ?_
      exact ⟨hF_.set 24 rfl,hI⟩
     obtain ⟨rfl,rfl,rfl,rfl,rfl,rfl,rfl,rfl,rfl,rfl,rfl,rfl,rfl,rfl,rfl,rfl,rfl,rfl,rfl,rfl,rfl,rfl,rfl,rfl,rfl,_⟩:=hF_.all
     clear hF_ cr cq ct cu cz cB bP cT dw fc cE cY dS fQ gx ir jD l6 pS ic rL tU sO uM FY
     have hcut:cut s i (i+x.size)=bs x:=by rw [<- B7 (cut s i (i+x.size)),hq']
     refine aI (fun hb=>?_) (fun hb=>?_)
     ·refine aH bF hj ?_
      refine bX aL ((hI.cellS hS).trans hcx) ?_
      refine ⟨bs x,rfl,by rw [<- hcut,Ew hlen]; omega,?_,hI⟩
      rw [if_pos ⟨decide_eq_true hlen,hcut,by omega⟩] at hbest
      exact hbest
     ·refine ⟨best,rfl,hbl,?_,hI⟩
      rw [if_neg] at hbest
      ·exact hbest
      ·rintro ⟨_,_,h3⟩
       omega
   ·skip
    refine ⟨fun D LH MW CH yP yz xV yc xZ yE yK Cl Co BS BR BK Cn yQ yG uK Jq EH JS Jk Jf EG w_=>Fx D 0 [EG=.int .i64 (i:Int),Jf=.int .i64 (x.size:Int),Jk=.int .i64 ((i+x.size:Nat):Int),JS=.string (st s),EH=.int .i64 (s.length:Int),Jq=.bool false,uK=.bool false,yG=undef,yQ=undef,Cn=undef,BK=undef,BR=undef,BS=undef,Co=undef,Cl=undef,yK=undef,yE=undef,xZ=undef,yc=.bool false,xV=.bool false,yz=undef,yP=undef,CH=undef,MW=undef,LH=.bool false]/\Inv w [] [] S1 w_,⟨Fx.nil _ _,hI.draw⟩,⟨?_,?_,?_,?_,?_,?_,?_,?_,?_,?_,?_,?_,?_,?_,?_,?_,?_,?_,?_,?_,?_,?_,?_,?_,?_,trivial⟩,?_⟩
    all_goals (intro D bx; intros; rename_i LH MW CH yP yz xV yc xZ yE yK Cl Co BS BR BK Cn yQ yG uK Jq EH JS Jk Jf EG w_ hA_; have hF_:=hA_.1; obtain ⟨⟨cr,cq,ct,cu,cz,cB,bP,cT,dw,fc,cE,cY,dS,fQ,gx,ir,jD,l6,pS,ic,rL,tU,sO,uM,FY,_⟩,hI⟩:=hA_)
    ·exact ⟨hF_.set 0 rfl,hI⟩
    ·exact ⟨hF_.set 1 rfl,hI⟩
    ·obtain rfl:=cr ‹_›
     obtain rfl:=cq ‹_›
     refine bq (by omega) ?_
     exact ⟨hF_.set 2 rfl,hI⟩
    ·exact ⟨hF_.set 3 rfl,hI⟩
    ·obtain rfl:=cu ‹_›
     refine ed aF ?_
     exact ⟨hF_.set 4 rfl,hI⟩
    ·obtain rfl:=ct ‹_›
     obtain rfl:=cz ‹_›
     refine Lg (by omega) ?_
     exact ⟨hF_.set 5 rfl,hI⟩
    ·obtain rfl:=cB ‹_›
     exact ⟨hF_.set 6 rfl,hI⟩
    ·obtain rfl:=bP ‹_›
     refine cC (c:=false) (b:=true) (by decide) ?_
     exact ⟨hF_.set 7 rfl,hI⟩
    ·obtain rfl:=bP ‹_›
     refine cC (c:=false) (b:=true) (by decide) ?_
     exact ⟨hF_.set 8 rfl,hI⟩
    ·obtain rfl:=bP ‹_›
     refine cC (c:=false) (b:=true) (by decide) ?_
     exact ⟨hF_.set 9 rfl,hI⟩
    ·obtain rfl:=bP ‹_›
     refine cC (c:=false) (b:=true) (by decide) ?_
     exact ⟨hF_.set 10 rfl,hI⟩
    ·obtain rfl:=fc ‹_›
     obtain rfl:=cE ‹_›
     obtain rfl:=bP ‹_›
     refine cC (c:=false) (b:=true) (by decide) ?_
     exact ⟨hF_.set 11 rfl,hI⟩
    ·obtain rfl:=cT ‹_›
     obtain rfl:=dw ‹_›
     obtain rfl:=cY ‹_›
     obtain rfl:=bP ‹_›
     refine cC (c:=false) (b:=true) (by decide) ?_
     exact ⟨hF_.set 12 rfl,hI⟩
    ·obtain rfl:=bP ‹_›
     refine cC (c:=false) (b:=true) (by decide) ?_
     exact ⟨hF_.set 13 rfl,hI⟩
    ·obtain rfl:=bP ‹_›
     refine cC (c:=false) (b:=true) (by decide) ?_
     exact ⟨hF_.set 14 rfl,hI⟩
    ·obtain rfl:=fQ ‹_›
     obtain rfl:=gx ‹_›
     obtain rfl:=bP ‹_›
     refine cC (c:=false) (b:=true) (by decide) ?_
     exact ⟨hF_.set 15 rfl,hI⟩
    ·obtain rfl:=ir ‹_›
     obtain rfl:=bP ‹_›
     refine cC (c:=false) (b:=true) (by decide) ?_
     exact ⟨hF_.set 16 rfl,hI⟩
    ·obtain rfl:=dS ‹_›
     obtain rfl:=jD ‹_›
     obtain rfl:=bP ‹_›
     refine cC (c:=false) (b:=true) (by decide) ?_
     exact ⟨hF_.set 17 rfl,hI⟩
    ·obtain rfl:=bP ‹_›
     obtain rfl:=l6 ‹_›
     refine pM ?_
     exact ⟨hF_.set 18 rfl,hI⟩
    ·obtain rfl:=pS ‹_›
     exact ⟨hF_.set 19 rfl,hI⟩
    ·obtain rfl:=ic ‹_›
     refine cC (c:=false) (b:=true) (by decide) ?_
     exact ⟨hF_.set 20 rfl,hI⟩
    ·obtain rfl:=ic ‹_›
     refine cC (c:=false) (b:=true) (by decide) ?_
     exact ⟨hF_.set 21 rfl,hI⟩
    ·obtain rfl:=tU ‹_›
     obtain rfl:=ic ‹_›
     refine cC (c:=false) (b:=true) (by decide) ?_
     exact ⟨hF_.set 22 rfl,hI⟩
    ·obtain rfl:=rL ‹_›
     obtain rfl:=sO ‹_›
     obtain rfl:=ic ‹_›
     refine cC (c:=false) (b:=true) (by decide) ?_
     exact ⟨hF_.set 23 rfl,hI⟩
    ·obtain rfl:=ic ‹_›
     obtain rfl:=uM ‹_›
     refine pM ?_
     exact ⟨hF_.set 24 rfl,hI⟩
    obtain ⟨rfl,rfl,rfl,rfl,rfl,rfl,rfl,rfl,rfl,rfl,rfl,rfl,rfl,rfl,rfl,rfl,rfl,rfl,rfl,rfl,rfl,rfl,rfl,rfl,rfl,_⟩:=hF_.all
    clear hF_ cr cq ct cu cz cB bP cT dw fc cE cY dS fQ gx ir jD l6 pS ic rL tU sO uM FY
    refine aw (fun hb=>by cases hb) (fun _=>?_)
    refine ⟨best,rfl,hbl,?_,hI⟩
    rw [if_neg] at hbest
    ·exact hbest
    ·rintro ⟨h1,_⟩
     rw [decide_eq_true_eq] at h1
     exact hlen h1
  intro t7 _ _ _ _ _ _ _ _ _ _ _ _ _ _ _ _ _ _ _ _ _ _ _ _ _ _ _ _ _ _ _ _ _ _ _ w'
  rintro ⟨best',rfl,hbl',hb',hI⟩
  refine bq (by omega) ?_
  exact ⟨⟨j+1,best',hj,rfl,rfl,hbl',hb',hI⟩,by simp [intOf]; omega⟩
 ·have:j=signs.length:=by omega
  subst this
  rw [List.drop_length,gA] at hbest
  rw [<- hbest] at hnm
  refine bg ?_
  refine aI (fun hb=>?_) (fun hb=>?_)
  ·have:best=[]:=by rw [<- B7 best,hb]
   exact gh hI hle (by rw [hnm,if_pos this]; rfl)
  ·have:¬ best=[]:=fun h=>hb (by rw [h])
   refine ed aF ?_
   refine bq (by omega) ?_
   exact gh hI hle (by rw [hnm,if_neg this]; rfl)
end
theorem u4 (s:Bs) (i:Nat):∀ (l:List ByteArray) (b:Bs),(∀ x∈l,x.size<=3)->b.length<=3->i+b.length<=s.length->i+(gA s i l b).length<=s.length/\(gA s i l b).length<=3
 | [],b,_,h2,h3=>⟨h3,h2⟩
 | x::l,b,h1,h2,h3=>by
  rw [gA]
  have hx:(bs x).length=x.size:=Array.length_toList
  split
  ·rename_i h
   exact u4 s i l _ (fun y hy=>h1 y (List.mem_cons_of_mem _ hy)) (by rw [hx]; exact h1 x (List.mem_cons_self ..)) (by rw [hx]; exact of_decide_eq_true h.1)
  ·exact u4 s i l _ (fun y hy=>h1 y (List.mem_cons_of_mem _ hy)) h2 h3
theorem JI (s:Bs):∀ (n e:Nat),e<=xk s n e/\xk s n e<=e+n
 | 0,e=>by simp [xk]
 | n+1,e=>by
  rw [xk]
  split
  ·have:=JI s n (e+1); omega
  ·omega
theorem td {s:Bs} {i:Nat} {n:Bs} {e:Nat} (hi:i<s.length) (h:rZ s i=some (n,e)):i<e/\e<=s.length/\n.length<=6/\n≠[]:=by
 have hl:=JI s (s.length - i) i
 have hb:=u4 s i signs [] EL (by simp) (by simpa using Nat.le_of_lt hi)
 unfold rZ at h
 simp only [] at h
 split at h
 ·cases h
 ·split at h
  ·simp only [Option.some.injEq,Prod.mk.injEq] at h
   obtain ⟨rfl,rfl⟩:=h
   rename_i h1 h2
   have hc:=Ew (s:=s) (a:=i) (b:=xk s (s.length - i) i) (by omega)
   refine ⟨h2,by omega,by omega,fun h=>?_⟩
   rw [h] at hc
   simp at hc
   omega
  ·split at h
   ·cases h
   ·simp only [Option.some.injEq,Prod.mk.injEq] at h
    obtain ⟨rfl,rfl⟩:=h
    rename_i h3
    have:0<(gA s i signs []).length:=by
     cases he:gA s i signs [] with
     | nil=>exact absurd he h3
     | cons a l=>simp
    exact ⟨by omega,by omega,by omega,h3⟩
def opV (o:Option (Bs × Nat)) (i:Nat):Value:=match o with
 | none=>.tuple #[.string ⟨#[]⟩,.int .i64 (i:Int)]
 | some (n,e)=>.tuple #[.string (st n),.int .i64 (e:Int)]
theorem LI {s:Bs} {i:Nat} {n:Bs} {e:Nat} (h:opF s i=some (n,e)):i<e/\e<=s.length/\n.length<=6/\n≠[]:=by
 unfold opF at h
 obtain ⟨fr,hfr⟩:∃ fr,fr=if sgn s i 32=true then i+1 else i:=⟨_,rfl⟩
 simp only [<- hfr] at h
 have hfi:i<=fr:=by rw [hfr]; split <;> omega
 split at h
 ·cases h
 rename_i hlt
 split at h
 ·cases h
 rename_i nm nx hnm
 obtain ⟨h1,h2,h3,h4⟩:=td (by omega) hnm
 split at h
 ·cases h
 rename_i hc
 simp only [not_or,not_and,Bool.not_eq_false] at hc
 simp only [Option.some.injEq,Prod.mk.injEq] at h
 obtain ⟨rfl,rfl⟩:=h
 refine ⟨by split <;> omega,?_,h3,h4⟩
 split
 ·rename_i hw
  have:=fV (hc.2.2 hw)
  omega
 ·exact h2
section
attribute [local irreducible] Run CondV ai az
theorem Hv {s:Bs} {i:Nat} (hs:s.length<=100000) (hi:i<=s.length) (S:ad):Pure Tryz.prog LR [.string (st s),.int .i64 (i:Int)] S (opV (opF s i) i):=by
 intro w hI
 refine Cz.2 ?_
 dsimp only[Cz,aX]
 obtain ⟨fr,hfr⟩:∃ fr,fr=if sgn s i 32=true then i+1 else i:=⟨_,rfl⟩
 have hfi:i<=fr/\fr<=i+1:=by rw [hfr]; split <;> omega
 obtain ⟨r,hr⟩:∃ r,r=opF s i:=⟨_,rfl⟩
 rw [<- hr]
 unfold opF at hr
 simp only [<- hfr] at hr
 refine ⟨fun t w'=>t=.int .i64 (fr:Int)/\Inv w [] [] S w',?_,?_⟩
 ·refine Run.callPure bZ bY hI (bL s i 32 S) fun w' hI=>?_
  refine aw (fun hb=>?_) (fun hb=>?_)
  ·refine bq (by omega) ?_
   rw [if_pos hb] at hfr
   exact ⟨by rw [hfr]; congr 1,hI⟩
  ·rw [if_neg (by rw [hb]; decide)] at hfr
   exact ⟨by rw [hfr],hI⟩
 intro t6 _ _ _ _ _ w'
 rintro ⟨rfl,hI⟩
 refine ed aF ?_
 refine j0 ?_
 refine aI (fun hb=>?_) (fun hb=>?_)
 ·rw [if_pos (by omega)] at hr
  exact done hI (by rw [hr]; rfl)
 rw [if_neg (by omega)] at hr
 refine Run.callPure wg wb hI (rN (by omega) hs S) fun w' hI=>?_
 cases hnm:rZ s fr with
 | none=>
  rw [hnm] at hr
  simp only [] at hr
  simp only [Jw]
  refine al rfl ?_
  refine al rfl ?_
  refine ⟨fun t w'=>t=.bool true/\Inv w [] [] S w',?_,?_⟩
  ·refine zR (by omega) ?_
   refine rpG ?_
   exact ⟨rfl,hI⟩
  intro t33 _ _ _ _ _ _ w'
  rintro ⟨rfl,hI⟩
  exact aw (fun _=>done hI (by rw [hr]; rfl)) (fun hb=>by cases hb)
 | some q=>
  obtain ⟨nm,nx⟩:=q
  rw [hnm] at hr
  simp only [] at hr
  obtain ⟨h1,h2,h3,h4⟩:=td (by omega) hnm
  simp only [Jw]
  refine al (v:=.string (st nm)) rfl ?_
  refine al (v:=.int .i64 (nx:Int)) rfl ?_
  refine ⟨fun t w'=>t=.bool (decide (bD (st nm)=0))/\Inv w [] [] S w',?_,?_⟩
  ·refine dG (by omega) ?_
   refine rpG ?_
   refine Run.callPure eh ew hI (c5 _ S) fun w' hI=>?_
   refine aZ ?_
   refine rpG ?_
   exact ⟨rfl,hI⟩
  intro t33 _ _ _ _ _ _ w'
  rintro ⟨rfl,hI⟩
  refine aI (fun hb=>?_) (fun hb=>?_)
  ·rw [if_pos (.inl hb)] at hr
   exact done hI (by rw [hr]; rfl)
  obtain ⟨word,hword⟩:∃ word,word=(decide (nm=[105,115]) || decide (nm=[109,111,100])):=⟨_,rfl⟩
  rw [<- hword] at hr
  refine ⟨fun t w'=>t=.bool word/\Inv w [] [] S w',?_,?_⟩
  ·refine yR (b:=[105,115]) ?_
   cases h5:decide (nm=[105,115])
   ·refine rpG ?_
    refine yR (b:=[109,111,100]) ?_
    refine rpG ?_
    exact ⟨by rw [hword,h5,Bool.false_or],hI⟩
   ·refine rpG ?_
    exact ⟨by rw [hword,h5,Bool.true_or],hI⟩
  intro t9 _ _ _ _ _ _ w'
  rintro ⟨rfl,hI⟩
  refine ⟨fun t w'=>t=.bool (decide (word≠decide (i<fr)) || (word && !sgn s nx 32))/\Inv w [] [] S w',?_,?_⟩
  ·refine dB ?_
   refine MO xN ?_
   have e1:decide ((i:Int)<(fr:Int))=decide (i<fr):=by rw [decide_eq_decide]; omega
   rw [e1]
   cases h6:decide (i<fr) <;> cases word
   ·refine rpG ?_
    exact ⟨by rfl,hI⟩
   ·refine rpG ?_
    exact ⟨by rfl,hI⟩
   ·refine rpG ?_
    exact ⟨by rfl,hI⟩
   ·refine rpG ?_
    refine Run.callPure bZ bY hI (bL s nx 32 S) fun w' hI=>?_
    refine bK ?_
    refine rpG ?_
    exact ⟨by simp,hI⟩
  intro t54 _ _ _ _ _ _ _ _ _ _ _ _ _ w'
  rintro ⟨rfl,hI⟩
  refine aw (fun hb'=>?_) (fun hb'=>?_)
  ·rw [if_pos] at hr
   ·exact done hI (by rw [hr]; rfl)
   ·rw [Bool.or_eq_true,decide_eq_true_eq,Bool.and_eq_true,Bool.not_eq_true'] at hb'
    exact .inr hb'
  ·rw [if_neg] at hr
   ·refine ⟨fun t w'=>t=.int .i64 ((if word=true then nx+1 else nx:Nat):Int)/\Inv w [] [] S w',?_,?_⟩
    ·refine aw (fun hw=>?_) (fun hw=>?_)
     ·refine bq (by omega) ?_
      exact ⟨by rw [if_pos hw]; congr 1,hI⟩
     ·exact ⟨by rw [if_neg (by rw [hw]; decide)],hI⟩
    intro t8 _ _ _ w'
    rintro ⟨rfl,hI⟩
    exact done hI (by rw [hr]; rfl)
   ·rw [Bool.or_eq_false_iff,decide_eq_false_iff_not] at hb'
    rintro (h|h|⟨h,h'⟩)
    ·exact hb h
    ·exact hb'.1 h
    ·rw [h,h'] at hb'
     simp at hb'
end
end Go.Proofs.YtgllldjiaglkcaaGreatDoor
