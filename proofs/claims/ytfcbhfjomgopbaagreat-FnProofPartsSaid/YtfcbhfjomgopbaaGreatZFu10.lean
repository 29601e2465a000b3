/- Bytes, numbers, names and operators in texts: spec.l1Sign and its kin. (printed by gen_byt.py) -/
import Derived.Test.YtfcbhfjomgopbaaGreatZFu9
import Derived.Test.YtfcbhfjomgopbaaGreatZFuF
namespace Go.Proofs.YtfcbhfjomgopbaaGreat
open Go Go.RowKit
theorem lp {s:Bs} {i:Nat} (h:i<s.length) (c:Nat):sgn s i c=decide (s[i].toNat=c):=by simp [sgn,List.getElem?_eq_getElem h]
theorem Pg {s:Bs} {i:Nat} (h:¬ i<s.length) (c:Nat):sgn s i c=false:=by simp [sgn,List.getElem?_eq_none (Nat.le_of_not_lt h)]
theorem oI {s:Bs} {i:Nat} (h:i<s.length) (a b:Nat):btw s i a b=(decide (a<=s[i].toNat) && decide (s[i].toNat<=b)):=by simp [btw,List.getElem?_eq_getElem h]
theorem LW {s:Bs} {i:Nat} (h:¬ i<s.length) (a b:Nat):btw s i a b=false:=by simp [btw,List.getElem?_eq_none (Nat.le_of_not_lt h)]
theorem CV {s:Bs} {i a b:Nat} (h:btw s i a b=true):i<s.length:=by
 rcases Nat.lt_or_ge i s.length with h1|h1
 ·exact h1
 ·rw [LW (by omega)] at h; cases h
theorem ib {s:Bs} {i c:Nat} (h:sgn s i c=true):i<s.length:=by
 rcases Nat.lt_or_ge i s.length with h1|h1
 ·exact h1
 ·rw [Pg (by omega)] at h; cases h
section
attribute [local irreducible] Run CondV aB aS
theorem cN (s:Bs) (i c:Nat) (S:ae):Pure Tryz.prog Mh [.string (st s),.int .i64 (i:Int),.int .u8 (c:Int)] S (.bool (sgn s i c)):=by
 intro w hI
 refine zg.2 ?_
 dsimp only[zg,cW]
 refine oj (by omega) ?_
 refine rpG ?_
 refine fA aT ?_
 by_cases h:i<s.length
 ·refine Co (by omega) ?_
  refine rpG ?_
  refine eA aT h ?_
  refine aZ ?_
  refine rpG ?_
  refine done hI ?_
  rw [lp h]
  congr 1
  rw [decide_eq_decide]
  omega
 ·refine eO (by omega) ?_
  refine rpG ?_
  exact done hI (by rw [Pg h])
theorem gR (s:Bs) (i:Nat) (S:ae):Pure Tryz.prog Kg [.string (st s),.int .i64 (i:Int)] S (.bool (dig s i)):=by
 intro w hI
 refine vd.2 ?_
 dsimp only[vd,aW]
 refine oj (by omega) ?_
 refine rpG ?_
 refine fA aT ?_
 by_cases h:i<s.length
 ·refine Co (by omega) ?_
  refine rpG ?_
  refine eA aT h ?_
  rw [dig,oI h]
  by_cases h2:48<=s[i].toNat
  ·refine oj (by omega) ?_
   refine rpG ?_
   refine eA aT h ?_
   refine eC ?_
   refine rpG ?_
   refine done hI ?_
   rw [decide_eq_true h2,Bool.true_and]
   congr 1
   rw [decide_eq_decide]
   omega
  ·refine xR (by omega) ?_
   refine rpG ?_
   exact done hI (by rw [decide_eq_false h2,Bool.false_and])
 ·refine eO (by omega) ?_
  refine rpG ?_
  exact done hI (by rw [dig,LW h])
theorem ph (s:Bs) (i:Nat) (S:ae):Pure Tryz.prog Ik [.string (st s),.int .i64 (i:Int)] S (.bool (sml s i)):=by
 intro w hI
 refine vC.2 ?_
 dsimp only[vC,aW]
 refine oj (by omega) ?_
 refine rpG ?_
 refine fA aT ?_
 by_cases h:i<s.length
 ·refine Co (by omega) ?_
  refine rpG ?_
  refine eA aT h ?_
  rw [sml,oI h]
  by_cases h2:97<=s[i].toNat
  ·refine oj (by omega) ?_
   refine rpG ?_
   refine eA aT h ?_
   refine eC ?_
   refine rpG ?_
   refine done hI ?_
   rw [decide_eq_true h2,Bool.true_and]
   congr 1
   rw [decide_eq_decide]
   omega
  ·refine xR (by omega) ?_
   refine rpG ?_
   exact done hI (by rw [decide_eq_false h2,Bool.false_and])
 ·refine eO (by omega) ?_
  refine rpG ?_
  exact done hI (by rw [sml,LW h])
end
theorem Nh {s:Bs} {i:Nat} (h:i<s.length):dig s i=true↔48<=s[i].toNat/\s[i].toNat<=57:=by
 rw [dig,oI h,Bool.and_eq_true,decide_eq_true_eq,decide_eq_true_eq]
theorem Ou {d:Bs} {j:Nat} (h:j<d.length) (m:Nat):EG (d.drop j) m=EG (d.drop (j+1)) (m * 10+(d[j].toNat - 48)):=by
 rw [List.drop_eq_getElem_cons h,EG]
section
attribute [local irreducible] Run CondV aB aS
theorem Hs (d:Bs) (hd:∀ i,i<d.length->dig d i=true) (h0:0<d.length) (h4:d.length<=4) (hz:¬ (sgn d 0 48=true/\1<d.length)) (S:ae) :
  Pure Tryz.prog LM [.string (st d)] S (.tuple #[.int .i64 ((EG d 0:Nat):Int),.bool true]):=by
 intro w hI
 refine zJ.2 ?_
 dsimp only[zJ,aL]
 have hd0:=(Nh h0).1 (hd 0 h0)
 refine ⟨fun t w'=>t=.bool false/\Inv w [] [] S w',?_,?_⟩
 ·refine fA aT ?_
  refine KQ (by omega) ?_
  refine rpG ?_
  refine eA (i:=0) aT h0 ?_
  refine eD (by omega) ?_
  refine rpG ?_
  exact ⟨rfl,hI⟩
 intro t4 _ _ _ _ _ _ _ _ w'
 rintro ⟨rfl,hI⟩
 refine ⟨fun t w'=>t=.string (st d)/\Inv w [] [] S w',?_,?_⟩
 ·exact az (fun hb=>by cases hb) (fun _=>⟨rfl,hI⟩)
 intro t0 _ _ _ w'
 rintro ⟨rfl,hI⟩
 refine ⟨fun t w'=>t=.bool false/\Inv w [] [] S w',?_,?_⟩
 ·refine fA aT ?_
  refine eD (by omega) ?_
  refine rpG ?_
  refine fA aT ?_
  refine jQ (by omega) ?_
  refine rpG ?_
  refine eA (i:=0) aT h0 ?_
  by_cases hs:d[0].toNat=48
  ·refine fL (by omega) ?_
   refine rpG ?_
   refine fA aT ?_
   refine jQ (by
    have:¬ 1<d.length:=fun h=>hz ⟨by rw [lp h0,hs]; rfl,h⟩
    omega) ?_
   refine rpG ?_
   exact ⟨rfl,hI⟩
  ·refine eD (by omega) ?_
   refine rpG ?_
   exact ⟨rfl,hI⟩
 intro t38 _ _ _ _ _ _ _ _ _ _ _ _ _ _ _ _ _ _ _ _ w'
 rintro ⟨rfl,hI⟩
 refine az (fun hb=>by cases hb) (fun _=>?_)
 refine ⟨fun i n w'=>∃ j m:Nat,j<=d.length/\i=.int .i64 j/\n=.int .i64 m/\m<10 ^ j/\EG (d.drop j) m=EG d 0/\Inv w [] [] S w',fun i _ _=>d.length - (intOf i).toNat,
  ⟨0,0,Nat.zero_le _,rfl,rfl,by simp,rfl,hI⟩,?_⟩
 intro t6 _ _ t5 _ _ _ _ _ _ _ _ _ _ _ _ _ _ _ _ _ _ _ _ _ _ _ _ w'
 rintro ⟨j,m,hj,rfl,rfl,hm,hval,hI⟩
 have hp:10 ^ j<=10 ^ 4:=Nat.pow_le_pow_right (by omega) (by omega)
 refine fA aT ?_
 refine bq ?_
 refine aI (fun hji=>?_) (fun hji=>?_)
 ·have hj':j<d.length:=by omega
  have hdj:=(Nh hj').1 (hd j hj')
  refine ⟨fun t w'=>t=.bool false/\Inv w [] [] S w',?_,?_⟩
  ·refine eA aT hj' ?_
   refine eO (by omega) ?_
   refine rpG ?_
   refine eA aT hj' ?_
   refine jQ (by omega) ?_
   refine rpG ?_
   exact ⟨rfl,hI⟩
  intro t54 _ _ _ _ _ _ _ _ _ w'
  rintro ⟨rfl,hI⟩
  refine az (fun hb=>by cases hb) (fun _=>?_)
  refine y0 (by omega) ?_
  refine eA aT hj' ?_
  refine PE (c:=((d[j].toNat - 48:Nat):Int)) ?_ ?_
  ·rw [IntWalk.u8_in _ (by omega)]; omega
  refine qT ge fj (IntWalk.i64_in _ (by omega)) ?_
  refine bl (by omega) ?_
  refine bl (by omega) ?_
  refine ⟨⟨j+1,m * 10+(d[j].toNat - 48),hj',rfl,?_,?_,?_,hI⟩,by simp [intOf]; omega⟩
  ·congr 1
  ·rw [Nat.pow_succ]; omega
  ·rw [<- hval,Ou hj']
 ·have:j=d.length:=by omega
  subst this
  rw [List.drop_length,EG] at hval
  refine ⟨fun t w'=>t=.int .i64 m/\Inv w [] [] S w',az (fun hb=>by cases hb) (fun _=>⟨rfl,hI⟩),?_⟩
  intro t5 _ _ _ w'
  rintro ⟨rfl,hI⟩
  exact done hI (by rw [hval])
abbrev CW (k n:Int):Value:=.agg #[.int .i64 k,.int .i64 n,.string ⟨#[]⟩,.slice none 0 0]
theorem pI {w:World} {K:Value->World->Prop} {k n:Int} (hk:K (CW k n) w):Run Tryz.prog (bX ab [(0,.int .i64 k),(1,.int .i64 n)]) w K:=by
 refine Run.of (v:=CW k n) (w':=w) ?_ hk
 unfold bX
 rw [Sem.run_bind,run_build w ab _ #[.int .i64 k,.int .i64 n,.string ⟨#[]⟩,.slice none 0 0] (by kernel_rfl),Result.andThen_ok]
 rfl
theorem r9 (n:Int) (S:ae):Pure Tryz.prog Oo [.int .i64 n] S (CW 1 n):=by
 intro w hI
 refine Cd.2 ?_
 dsimp only[Cd,aL]
 refine aD hI aQ fun b w' hI=>?_
 refine pI ?_
 refine aq hI 0 rfl ac rfl rfl (by simp [Value.oneCell']) fun w' hI=>?_
 refine aU hI 0 ac rfl rfl ?_
 exact done hI rfl
theorem jo (n:Int) (S:ae):Pure Tryz.prog NQ [.int .i64 n] S (CW 2 n):=by
 intro w hI
 refine Br.2 ?_
 dsimp only[Br,aL]
 refine aD hI aQ fun b w' hI=>?_
 refine pI ?_
 refine aq hI 0 rfl ac rfl rfl (by simp [Value.oneCell']) fun w' hI=>?_
 refine aU hI 0 ac rfl rfl ?_
 exact done hI rfl
end
theorem KM (s:Bs) (n e:Nat):r5 s (n+1) e=if dig s e=true then r5 s n (e+1) else e:=rfl
theorem H3 (s:Bs):∀ (n e:Nat),e<=r5 s n e/\r5 s n e<=e+n
 | 0,e=>by simp [r5]
 | n+1,e=>by
  rw [r5]
  split
  ·have:=H3 s n (e+1); omega
  ·omega
theorem uO (s:Bs):∀ (n e i:Nat),e<=i->i<r5 s n e->dig s i=true
 | 0,e,i,h1,h2=>by simp [r5] at h2; omega
 | n+1,e,i,h1,h2=>by
  rw [r5] at h2
  split at h2
  ·rename_i h
   by_cases he:e=i
   ·subst he; exact h
   ·exact uO s n (e+1) i (by omega) h2
  ·omega
theorem GM {s:Bs} {a b i:Nat} (hi:i<(cut s a b).length):∃ h:a+i<s.length,(cut s a b)[i]=s[a+i]/\a+i<b:=by
 have h1:(cut s a b).length=min b s.length - a:=by simp [cut]
 refine ⟨by omega,?_,by omega⟩
 simp [cut]
theorem Gj {s:Bs} {a b:Nat} (hb:b<=s.length):(cut s a b).length=b - a:=by simp [cut]; omega
theorem QS {s:Bs} {a b i:Nat} (hi:i<(cut s a b).length):dig (cut s a b) i=dig s (a+i):=by
 obtain ⟨h,e,_⟩:=GM hi
 rw [dig,dig,oI hi,oI h,e]
section
attribute [local irreducible] Run CondV aB aS
theorem C7 {s:Bs} {i e:Nat} {t:T} (hn:ON s i=some (t,e)) (hi:i<=100000) (S:ae) :
  ∃ n:Int,inI n/\t=.mk 2 n emptyB []/\i<=e/\e<=i+5/\Pure Tryz.prog GG [.string (st s),.int .i64 (i:Int)] S (.tuple #[CW 2 n,.int .i64 (e:Int)]):=by
 unfold ON at hn
 obtain ⟨fr,hfr⟩:∃ fr,fr=if sgn s i 45=true then i+1 else i:=⟨_,rfl⟩
 simp only [<- hfr] at hn
 obtain ⟨en,hen⟩:∃ en,en=r5 s 4 fr:=⟨_,rfl⟩
 simp only [<- hen] at hn
 have hle:=H3 s 4 fr
 rw [<- hen] at hle
 have hfi:i<=fr/\fr<=i+1:=by rw [hfr]; split <;> omega
 split at hn
 ·cases hn
 rename_i hc
 simp only [not_or] at hc
 obtain ⟨hc1,hc2,hc3,hc4⟩:=hc
 simp only [Option.some.injEq,Prod.mk.injEq] at hn
 obtain ⟨rfl,rfl⟩:=hn
 have hdig:∀ j,j<(cut s fr en).length->dig (cut s fr en) j=true:=fun j hj=>by
  obtain ⟨h1,h2,h3⟩:=GM hj
  rw [QS hj]
  exact uO s 4 fr _ (by omega) (by rw [<- hen]; exact h3)
 have hlen0:0<(cut s fr en).length:=by
  cases he:cut s fr en with
  | nil=>exact absurd he hc1
  | cons a l=>simp
 have hen2:fr<en:=by
  obtain ⟨_,_,h3⟩:=GM hlen0
  omega
 have hens:en<=s.length:=by
  have:=uO s 4 fr (en - 1) (by omega) (by rw [<- hen]; omega)
  have:=CV this
  omega
 refine ⟨_,?_,rfl,by omega,by omega,?_⟩
 ·unfold inI; split <;> omega
 intro w hI
 refine te.2 ?_
 dsimp only[te,aW]
 refine aD hI aQ fun b4 w' hI=>?_
 refine ⟨fun t w'=>t=.int .i64 (fr:Int)/\Inv w [] [.blk b4 (.cells #[.int .i64 0,.int .i64 0,.string ⟨#[]⟩,.slice none 0 0] ab)] S w',?_,?_⟩
 ·refine Run.callPure cV cZ hI (cN s i 45 S) fun w' hI=>?_
  refine az (fun hb=>?_) (fun hb=>?_)
  ·refine bl (by omega) ?_
   rw [if_pos hb] at hfr
   exact ⟨by rw [hfr]; congr 1,hI⟩
  ·rw [if_neg (by rw [hb]; decide)] at hfr
   exact ⟨by rw [hfr],hI⟩
 intro t6 _ _ _ _ _ w'
 rintro ⟨rfl,hI⟩
 refine ⟨fun t w'=>∃ j:Nat,t=.int .i64 (j:Int)/\fr<=j/\j<=fr+4/\r5 s (fr+4 - j) j=en/\Inv w [] [.blk b4 (.cells #[.int .i64 0,.int .i64 0,.string ⟨#[]⟩,.slice none 0 0] ab)] S w',fun t _=>fr+4 - (intOf t).toNat,
  ⟨fr,rfl,Nat.le_refl _,by omega,by rw [Nat.add_sub_cancel_left]; exact hen.symm,hI⟩,?_⟩
 intro t6 _ _ _ _ _ _ _ _ _ _ _ w'
 rintro ⟨j,rfl,hj1,hj2,hj3,hI⟩
 refine ⟨fun t w'=>t=.bool (dig s j && decide (j<fr+4))/\Inv w [] [.blk b4 (.cells #[.int .i64 0,.int .i64 0,.string ⟨#[]⟩,.slice none 0 0] ab)] S w',?_,?_⟩
 ·refine Run.callPure kr j8 hI (gR s j S) fun w' hI=>?_
  cases hdj:dig s j
  ·refine rpG ?_
   exact ⟨rfl,hI⟩
  ·refine rpG ?_
   refine bl (by omega) ?_
   refine bq ?_
   refine rpG ?_
   refine ⟨?_,hI⟩
   rw [Bool.true_and]
   congr 1
   rw [decide_eq_decide]
   omega
 intro t25 _ _ _ _ _ _ _ _ w'
 rintro ⟨rfl,hI⟩
 refine az (fun hb=>?_) (fun hb=>?_)
 ·rw [Bool.and_eq_true,decide_eq_true_eq] at hb
  refine bl (by omega) ?_
  refine ⟨⟨j+1,rfl,by omega,by omega,?_,hI⟩,by simp [intOf]; omega⟩
  rw [<- hj3,show fr+4 - j=(fr+4 - (j+1))+1 by omega,KM,if_pos hb.1]
 ·have hje:j=en:=by
   rw [<- hj3]
   by_cases h4:j=fr+4
   ·rw [h4,Nat.sub_self]; rfl
   ·rw [show fr+4 - j=(fr+4 - (j+1))+1 by omega,KM,if_neg]
    intro hd
    rw [hd,Bool.true_and,decide_eq_false_iff_not] at hb
    omega
  subst hje
  refine De aT (by omega) hens ?_
  refine Run.callPure Ix Jb hI (Hs _ hdig hlen0 (by rw [Gj hens]; omega) hc2 S) fun w' hI=>?_
  obtain ⟨n,hn⟩:∃ n,n=EG (cut s fr j) 0:=⟨_,rfl⟩
  rw [<- hn]
  refine aj (v:=.int .i64 (n:Int)) rfl ?_
  refine aj (v:=.bool true) rfl ?_
  simp only [<- hn] at hc3 hc4 ⊢
  refine ⟨fun t w'=>t=.bool false/\Inv w [] [.blk b4 (.cells #[.int .i64 0,.int .i64 0,.string ⟨#[]⟩,.slice none 0 0] ab)] S w',?_,?_⟩
  ·refine bK ?_
   refine rpG ?_
   by_cases hfi':i<fr
   ·refine KQ (by omega) ?_
    refine rpG ?_
    refine aZ ?_
    have:¬ n=0:=fun h=>hc3 ⟨hfi',h⟩
    rw [decide_eq_false (by omega)]
    refine rpG ?_
    refine jQ (by omega) ?_
    refine rpG ?_
    exact ⟨rfl,hI⟩
   ·refine jQ (by omega) ?_
    refine rpG ?_
    refine jQ (by omega) ?_
    refine rpG ?_
    exact ⟨rfl,hI⟩
  intro t50 _ _ _ _ _ _ _ _ _ _ _ _ _ _ w'
  rintro ⟨rfl,hI⟩
  refine az (fun hb=>by cases hb) (fun _=>?_)
  refine ⟨fun t w'=>t=.int .i64 (if i<fr then -(n:Int) else n)/\Inv w [] [.blk b4 (.cells #[.int .i64 0,.int .i64 0,.string ⟨#[]⟩,.slice none 0 0] ab)] S w',?_,?_⟩
  ·refine dl ?_
   refine aI (fun hb=>?_) (fun hb=>?_)
   ·refine RQ (by omega) ?_
    exact ⟨by rw [if_pos (by omega)],hI⟩
   ·exact ⟨by rw [if_neg (by omega)],hI⟩
  intro t8 _ _ _ _ _ w'
  rintro ⟨rfl,hI⟩
  refine Run.callPure ow ov hI (jo _ S) fun w' hI=>?_
  refine aq hI 0 rfl ac rfl rfl (by simp [Value.oneCell']) fun w' hI=>?_
  refine aU hI 0 ac rfl rfl ?_
  exact done hI rfl
end
theorem RdSl.some1 {α:Type} {S:ae} {k:Nat} {R:List Value->α->Prop} {v:Value} {xs:List α} (h:RdSl S k R v xs) (h0:0<xs.length):∃ b o cap,v=.slice (some ⟨b,o,none⟩) xs.length cap:=by
 obtain ⟨b,o,cap,c,E,fz,e,_,_⟩:=h.at_ h0
 exact ⟨b,o,cap,e⟩
theorem KN (s:Bs) (n e:Nat):Ah s (n+1) e=if sml s e=true then Ah s n (e+1) else e:=rfl
def NC (o:Option (Bs × Nat)):Value:=match o with
 | none=>.tuple #[.string ⟨#[]⟩,.int .i64 (-1)]
 | some (n,e)=>.tuple #[.string (st n),.int .i64 (e:Int)]
theorem MK (s:Bs) (i:Nat) {j:Nat} (h:j<signs.length) (b:Bs):iK s i (signs.drop j) b=iK s i (signs.drop (j+1)) (if decide (i+signs[j].size<=s.length)=true/\cut s i (i+signs[j].size)=bs signs[j]/\b.length<signs[j].size then bs signs[j] else b):=by
 rw [List.drop_eq_getElem_cons h,iK]
theorem Jj:∀ x∈signs,x.size<=3:=by decide
section
attribute [local irreducible] Run CondV aB aS
theorem wM {s:Bs} {i:Nat} (hi:i<s.length) (hs:s.length<=100000) (S:ae):Pure Tryz.prog LN [.string (st s),.int .i64 (i:Int)] S (NC (wo s i)):=by
 intro w hI
 refine yP.2 ?_
 dsimp only[yP,aW]
 obtain ⟨E,hE⟩:∃ E,E=Ah s (s.length - i) i:=⟨_,rfl⟩
 have hnm:wo s i=if i+6<E then none else if i<E then some (cut s i E,E) else if iK s i signs []=[] then none else some (iK s i signs [],i+(iK s i signs []).length):=by
  rw [wo,<- hE]
 refine ⟨fun t w'=>∃ e:Nat,t=.int .i64 (e:Int)/\i<=e/\e<=s.length/\Ah s (s.length - e) e=E/\Inv w [] [] S w',fun t _=>s.length - (intOf t).toNat,⟨i,rfl,Nat.le_refl _,by omega,hE.symm,hI⟩,?_⟩
 intro t6 _ _ _ _ _ w'
 rintro ⟨e,rfl,he1,he2,he3,hI⟩
 refine Run.callPure vz wW hI (ph s e S) fun w' hI=>?_
 refine az (fun hb=>?_) (fun hb=>?_)
 ·have hlt:=CV hb
  refine bl (by omega) ?_
  refine ⟨⟨e+1,rfl,by omega,by omega,?_,hI⟩,by simp [intOf]; omega⟩
  rw [<- he3,show s.length - e=(s.length - (e+1))+1 by omega,KN,if_pos hb]
 have heE:e=E:=by
  rw [<- he3]
  by_cases h:e=s.length
  ·rw [h,Nat.sub_self,Ah]
  ·rw [show s.length - e=(s.length - (e+1))+1 by omega,KN,if_neg (by rw [hb]; decide)]
 subst heE
 refine bl (by omega) ?_
 refine dl ?_
 refine aI (fun hb=>done hI (by rw [hnm,if_pos (by omega)]; rfl)) (fun hb=>?_)
 rw [if_neg (by omega)] at hnm
 refine dl ?_
 refine aI (fun hb=>?_) (fun hb=>?_)
 ·refine De aT (by omega) (by omega) ?_
  exact done hI (by rw [hnm,if_pos (by omega)]; rfl)
 rw [if_neg (by omega)] at hnm
 refine Run.call0 wG uX hI (sD S) fun v I' S1 w'=>?_
 rintro ⟨rfl,hle,hr⟩ _ hI
 obtain ⟨b,o,cap,rfl⟩:=RdSl.some1 hr (by decide)
 refine ⟨fun t u w'=>∃ (j:Nat) (best:Bs),j<=signs.length/\t=.int .i64 (j:Int)/\u=.string (st best)/\best.length<=3/\iK s i (signs.drop j) best=iK s i signs []/\Inv w [] [] S1 w',fun t _ _=>signs.length - (intOf t).toNat,
  ⟨0,[],Nat.zero_le _,rfl,rfl,by simp,rfl,hI.nil⟩,?_⟩
 intro t9 _ _ t7 _ _ _ _ t65 t64 t63 t62 t61 t60 t59 t58 t57 t56 t55 t54 t53 t52 t51 t50 t49 t48 t47 t46 t45 t44 t43 t42 t41 _ _ _ _ _ _ _ _ _ _ w'
 rintro ⟨j,best,hj0,rfl,rfl,hbl,hbest,hI⟩
 have h15:signs.length=15:=rfl
 refine aC hr cg ?_
 refine bq ?_
 refine aI (fun hji=>?_) (fun hji=>?_)
 ·have hj:j<signs.length:=by omega
  obtain ⟨x,hx⟩:∃ x,x=signs[j]:=⟨_,rfl⟩
  have hx3:x.size<=3:=by rw [hx]; exact Jj _ (List.getElem_mem hj)
  obtain ⟨b',o',cap',c,E',fz,hsl,hS,hR⟩:=hr.at_ hj
  cases hsl
  have hcx:c[o+j * 1]?=some (.string x):=by rw [hx]; exact au hR 0 _ rfl
  rw [MK s i hj,<- hx] at hbest
  refine ⟨fun u w'=>∃ best',u=.string (st best')/\best'.length<=3/\iK s i (signs.drop (j+1)) best'=iK s i signs []/\Inv w [] [] S1 w',?_,?_⟩
  ·refine ar cg hj ?_
   refine ce aJ ((hI.cellS hS).trans hcx) ?_
   refine fQ aT ?_
   by_cases hlen:i+x.size<=s.length
   ·cases hq:decide (st (cut s i (i+x.size))=x)
    ·skip
     refine ⟨fun D FZ EP yd yc yQ xL yr wS si tJ rJ ti pD kX rR s3 sO rp jL mw kL jY iC iJ ig w_=>Fx D 0 [ig=.int .i64 (i:Int),iJ=.int .i64 (x.size:Int),iC=.int .i64 ((i+x.size:Nat):Int),jY=.string (st s),kL=.int .i64 (s.length:Int),mw=.bool true,jL=.bool true,rp=.string (st s),sO=.int .i64 (i:Int),s3=.int .i64 (i:Int),rR=.int .i64 (x.size:Int),kX=.int .i64 ((i+x.size:Nat):Int),pD=.string (st (cut s i (i+x.size))),ti=.slice (some ⟨b,o,none⟩) signs.length cap,rJ=.int .i64 (j:Int),tJ=.pointer (some ⟨b,o+j * 1,none⟩),si=.string x,wS=.bool false,yr=.bool false,xL=.bool false,yQ=undef,yc=undef,yd=undef,EP=undef,FZ=.bool false]/\Inv w [] [] S1 w_,⟨Fx.nil _ _,hI.draw⟩,⟨?_,?_,?_,?_,?_,?_,?_,?_,?_,?_,?_,?_,?_,?_,?_,?_,?_,?_,?_,?_,?_,?_,?_,?_,?_,trivial⟩,?_⟩
     all_goals (intro D bn; intros; rename_i FZ EP yd yc yQ xL yr wS si tJ rJ ti pD kX rR s3 sO rp jL mw kL jY iC iJ ig w_ hA_; have hF_:=hA_.1; obtain ⟨⟨bR,bQ,bG,bS,bU,bB,bD,cq,ci,cL,bH,bT,cH,de,cB,dk,dw,dH,eE,dS,fl,iz,mY,qY,J6,_⟩,hI⟩:=hA_)
     ·exact ⟨hF_.set 0 rfl,hI⟩
     ·exact ⟨hF_.set 1 rfl,hI⟩
     ·obtain rfl:=bR ‹_›
      obtain rfl:=bQ ‹_›
      refine bl (by omega) ?_
      exact ⟨hF_.set 2 rfl,hI⟩
     ·exact ⟨hF_.set 3 rfl,hI⟩
     ·obtain rfl:=bS ‹_›
      refine fA aT ?_
      exact ⟨hF_.set 4 rfl,hI⟩
     ·obtain rfl:=bG ‹_›
      obtain rfl:=bU ‹_›
      refine HL (by omega) ?_
      exact ⟨hF_.set 5 rfl,hI⟩
     ·obtain rfl:=bB ‹_›
      exact ⟨hF_.set 6 rfl,hI⟩
     ·obtain rfl:=bD ‹_›
      refine bj ?_
      exact ⟨hF_.set 7 rfl,hI⟩
     ·obtain rfl:=bD ‹_›
      refine bj ?_
      exact ⟨hF_.set 8 rfl,hI⟩
     ·obtain rfl:=bD ‹_›
      refine bj ?_
      exact ⟨hF_.set 9 rfl,hI⟩
     ·obtain rfl:=bD ‹_›
      refine bj ?_
      exact ⟨hF_.set 10 rfl,hI⟩
     ·obtain rfl:=cL ‹_›
      obtain rfl:=bH ‹_›
      obtain rfl:=bD ‹_›
      refine bj ?_; refine bl (by omega) ?_
      exact ⟨hF_.set 11 rfl,hI⟩
     ·obtain rfl:=cq ‹_›
      obtain rfl:=ci ‹_›
      obtain rfl:=bT ‹_›
      obtain rfl:=bD ‹_›
      refine bj ?_; refine De aT (by omega) (by omega) ?_
      exact ⟨hF_.set 12 rfl,hI⟩
     ·obtain rfl:=bD ‹_›
      refine bj ?_
      exact ⟨hF_.set 13 rfl,hI⟩
     ·obtain rfl:=bD ‹_›
      refine bj ?_
      exact ⟨hF_.set 14 rfl,hI⟩
     ·obtain rfl:=de ‹_›
      obtain rfl:=cB ‹_›
      obtain rfl:=bD ‹_›
      refine bj ?_; refine ar cg hj ?_
      exact ⟨hF_.set 15 rfl,hI⟩
     ·obtain rfl:=dk ‹_›
      obtain rfl:=bD ‹_›
      refine bj ?_; refine ce aJ ((hI.cellS hS).trans hcx) ?_
      exact ⟨hF_.set 16 rfl,hI⟩
     ·obtain rfl:=cH ‹_›
      obtain rfl:=dw ‹_›
      obtain rfl:=bD ‹_›
      refine bj ?_; refine bg ?_; rw [hq]
      exact ⟨hF_.set 17 rfl,hI⟩
     ·obtain rfl:=bD ‹_›
      obtain rfl:=dH ‹_›
      refine xm ?_
      exact ⟨hF_.set 18 rfl,hI⟩
     ·obtain rfl:=eE ‹_›
      exact ⟨hF_.set 19 rfl,hI⟩
     ·obtain rfl:=dS ‹_›
      refine co (c:=false) (b:=true) (by decide) ?_
      exact ⟨hF_.set 20 rfl,hI⟩
     ·obtain rfl:=dS ‹_›
      refine co (c:=false) (b:=true) (by decide) ?_
      exact ⟨hF_.set 21 rfl,hI⟩
     ·obtain rfl:=iz ‹_›
      obtain rfl:=dS ‹_›
      refine co (c:=false) (b:=true) (by decide) ?_
      exact ⟨hF_.set 22 rfl,hI⟩
     ·obtain rfl:=fl ‹_›
      obtain rfl:=mY ‹_›
      obtain rfl:=dS ‹_›
      refine co (c:=false) (b:=true) (by decide) ?_
      exact ⟨hF_.set 23 rfl,hI⟩
     ·obtain rfl:=dS ‹_›
      obtain rfl:=qY ‹_›
      refine oD ?_
      exact ⟨hF_.set 24 rfl,hI⟩
     obtain ⟨rfl,rfl,rfl,rfl,rfl,rfl,rfl,rfl,rfl,rfl,rfl,rfl,rfl,rfl,rfl,rfl,rfl,rfl,rfl,rfl,rfl,rfl,rfl,rfl,rfl,_⟩:=hF_.all
     clear hF_ bR bQ bG bS bU bB bD cq ci cL bH bT cH de cB dk dw dH eE dS fl iz mY qY J6
     refine az (fun hb=>by cases hb) (fun _=>?_)
     refine ⟨best,rfl,hbl,?_,hI⟩
     rw [if_neg] at hbest
     ·exact hbest
     ·rintro ⟨_,h2,_⟩
      rw [decide_eq_false_iff_not] at hq
      exact hq (by rw [h2])
    ·rw [decide_eq_true_eq] at hq
     have hq':=hq
     have hq:decide (st (cut s i (i+x.size))=x)=true:=decide_eq_true hq'
     skip
     refine ⟨fun D FZ EP yd yc yQ xL yr wS si tJ rJ ti pD kX rR s3 sO rp jL mw kL jY iC iJ ig w_=>Fx D 0 [ig=.int .i64 (i:Int),iJ=.int .i64 (x.size:Int),iC=.int .i64 ((i+x.size:Nat):Int),jY=.string (st s),kL=.int .i64 (s.length:Int),mw=.bool true,jL=.bool true,rp=.string (st s),sO=.int .i64 (i:Int),s3=.int .i64 (i:Int),rR=.int .i64 (x.size:Int),kX=.int .i64 ((i+x.size:Nat):Int),pD=.string (st (cut s i (i+x.size))),ti=.slice (some ⟨b,o,none⟩) signs.length cap,rJ=.int .i64 (j:Int),tJ=.pointer (some ⟨b,o+j * 1,none⟩),si=.string x,wS=.bool true,yr=.bool true,xL=.bool true,yQ=.int .i64 (x.size:Int),yc=.string (st best),yd=.int .i64 (best.length:Int),EP=.bool (decide ((best.length:Int)<(x.size:Int))),FZ=.bool (decide ((best.length:Int)<(x.size:Int)))]/\Inv w [] [] S1 w_,⟨Fx.nil _ _,hI.draw⟩,⟨?_,?_,?_,?_,?_,?_,?_,?_,?_,?_,?_,?_,?_,?_,?_,?_,?_,?_,?_,?_,?_,?_,?_,?_,?_,trivial⟩,?_⟩
     all_goals (intro D bn; intros; rename_i FZ EP yd yc yQ xL yr wS si tJ rJ ti pD kX rR s3 sO rp jL mw kL jY iC iJ ig w_ hA_; have hF_:=hA_.1; obtain ⟨⟨bR,bQ,bG,bS,bU,bB,bD,cq,ci,cL,bH,bT,cH,de,cB,dk,dw,dH,eE,dS,fl,iz,mY,qY,J6,_⟩,hI⟩:=hA_)
     ·exact ⟨hF_.set 0 rfl,hI⟩
     ·exact ⟨hF_.set 1 rfl,hI⟩
     ·obtain rfl:=bR ‹_›
      obtain rfl:=bQ ‹_›
      refine bl (by omega) ?_
      exact ⟨hF_.set 2 rfl,hI⟩
     ·exact ⟨hF_.set 3 rfl,hI⟩
     ·obtain rfl:=bS ‹_›
      refine fA aT ?_
      exact ⟨hF_.set 4 rfl,hI⟩
     ·obtain rfl:=bG ‹_›
      obtain rfl:=bU ‹_›
      refine HL (by omega) ?_
      exact ⟨hF_.set 5 rfl,hI⟩
     ·obtain rfl:=bB ‹_›
      exact ⟨hF_.set 6 rfl,hI⟩
     ·obtain rfl:=bD ‹_›
      refine bj ?_
      exact ⟨hF_.set 7 rfl,hI⟩
     ·obtain rfl:=bD ‹_›
      refine bj ?_
      exact ⟨hF_.set 8 rfl,hI⟩
     ·obtain rfl:=bD ‹_›
      refine bj ?_
      exact ⟨hF_.set 9 rfl,hI⟩
     ·obtain rfl:=bD ‹_›
      refine bj ?_
      exact ⟨hF_.set 10 rfl,hI⟩
     ·obtain rfl:=cL ‹_›
      obtain rfl:=bH ‹_›
      obtain rfl:=bD ‹_›
      refine bj ?_; refine bl (by omega) ?_
      exact ⟨hF_.set 11 rfl,hI⟩
     ·obtain rfl:=cq ‹_›
      obtain rfl:=ci ‹_›
      obtain rfl:=bT ‹_›
      obtain rfl:=bD ‹_›
      refine bj ?_; refine De aT (by omega) (by omega) ?_
      exact ⟨hF_.set 12 rfl,hI⟩
     ·obtain rfl:=bD ‹_›
      refine bj ?_
      exact ⟨hF_.set 13 rfl,hI⟩
     ·obtain rfl:=bD ‹_›
      refine bj ?_
      exact ⟨hF_.set 14 rfl,hI⟩
     ·obtain rfl:=de ‹_›
      obtain rfl:=cB ‹_›
      obtain rfl:=bD ‹_›
      refine bj ?_; refine ar cg hj ?_
      exact ⟨hF_.set 15 rfl,hI⟩
     ·obtain rfl:=dk ‹_›
      obtain rfl:=bD ‹_›
      refine bj ?_; refine ce aJ ((hI.cellS hS).trans hcx) ?_
      exact ⟨hF_.set 16 rfl,hI⟩
     ·obtain rfl:=cH ‹_›
      obtain rfl:=dw ‹_›
      obtain rfl:=bD ‹_›
      refine bj ?_; refine bg ?_; rw [hq]
      exact ⟨hF_.set 17 rfl,hI⟩
     ·obtain rfl:=bD ‹_›
      obtain rfl:=dH ‹_›
      refine xm ?_
      exact ⟨hF_.set 18 rfl,hI⟩
     ·obtain rfl:=eE ‹_›
      exact ⟨hF_.set 19 rfl,hI⟩
     ·obtain rfl:=dS ‹_›
      refine bj ?_
      exact ⟨hF_.set 20 rfl,hI⟩
     ·obtain rfl:=dS ‹_›
      refine bj ?_
      exact ⟨hF_.set 21 rfl,hI⟩
     ·obtain rfl:=iz ‹_›
      obtain rfl:=dS ‹_›
      refine bj ?_; refine fA aT ?_
      exact ⟨hF_.set 22 rfl,hI⟩
     ·obtain rfl:=fl ‹_›
      obtain rfl:=mY ‹_›
      obtain rfl:=dS ‹_›
      refine bj ?_; refine dl ?_
      exact ⟨hF_.set 23 rfl,hI⟩
     ·obtain rfl:=dS ‹_›
      obtain rfl:=qY ‹_›
      refine xm ?_
      exact ⟨hF_.set 24 rfl,hI⟩
     obtain ⟨rfl,rfl,rfl,rfl,rfl,rfl,rfl,rfl,rfl,rfl,rfl,rfl,rfl,rfl,rfl,rfl,rfl,rfl,rfl,rfl,rfl,rfl,rfl,rfl,rfl,_⟩:=hF_.all
     clear hF_ bR bQ bG bS bU bB bD cq ci cL bH bT cH de cB dk dw dH eE dS fl iz mY qY J6
     have hcut:cut s i (i+x.size)=bs x:=by rw [<- Fq (cut s i (i+x.size)),hq']
     refine aI (fun hb=>?_) (fun hb=>?_)
     ·refine ar cg hj ?_
      refine ce aJ ((hI.cellS hS).trans hcx) ?_
      refine ⟨bs x,rfl,by rw [<- hcut,Gj hlen]; omega,?_,hI⟩
      rw [if_pos ⟨decide_eq_true hlen,hcut,by omega⟩] at hbest
      exact hbest
     ·refine ⟨best,rfl,hbl,?_,hI⟩
      rw [if_neg] at hbest
      ·exact hbest
      ·rintro ⟨_,_,h3⟩
       omega
   ·skip
    refine ⟨fun D FZ EP yd yc yQ xL yr wS si tJ rJ ti pD kX rR s3 sO rp jL mw kL jY iC iJ ig w_=>Fx D 0 [ig=.int .i64 (i:Int),iJ=.int .i64 (x.size:Int),iC=.int .i64 ((i+x.size:Nat):Int),jY=.string (st s),kL=.int .i64 (s.length:Int),mw=.bool false,jL=.bool false,rp=undef,sO=undef,s3=undef,rR=undef,kX=undef,pD=undef,ti=undef,rJ=undef,tJ=undef,si=undef,wS=undef,yr=.bool false,xL=.bool false,yQ=undef,yc=undef,yd=undef,EP=undef,FZ=.bool false]/\Inv w [] [] S1 w_,⟨Fx.nil _ _,hI.draw⟩,⟨?_,?_,?_,?_,?_,?_,?_,?_,?_,?_,?_,?_,?_,?_,?_,?_,?_,?_,?_,?_,?_,?_,?_,?_,?_,trivial⟩,?_⟩
    all_goals (intro D bn; intros; rename_i FZ EP yd yc yQ xL yr wS si tJ rJ ti pD kX rR s3 sO rp jL mw kL jY iC iJ ig w_ hA_; have hF_:=hA_.1; obtain ⟨⟨bR,bQ,bG,bS,bU,bB,bD,cq,ci,cL,bH,bT,cH,de,cB,dk,dw,dH,eE,dS,fl,iz,mY,qY,J6,_⟩,hI⟩:=hA_)
    ·exact ⟨hF_.set 0 rfl,hI⟩
    ·exact ⟨hF_.set 1 rfl,hI⟩
    ·obtain rfl:=bR ‹_›
     obtain rfl:=bQ ‹_›
     refine bl (by omega) ?_
     exact ⟨hF_.set 2 rfl,hI⟩
    ·exact ⟨hF_.set 3 rfl,hI⟩
    ·obtain rfl:=bS ‹_›
     refine fA aT ?_
     exact ⟨hF_.set 4 rfl,hI⟩
    ·obtain rfl:=bG ‹_›
     obtain rfl:=bU ‹_›
     refine PL (by omega) ?_
     exact ⟨hF_.set 5 rfl,hI⟩
    ·obtain rfl:=bB ‹_›
     exact ⟨hF_.set 6 rfl,hI⟩
    ·obtain rfl:=bD ‹_›
     refine co (c:=false) (b:=true) (by decide) ?_
     exact ⟨hF_.set 7 rfl,hI⟩
    ·obtain rfl:=bD ‹_›
     refine co (c:=false) (b:=true) (by decide) ?_
     exact ⟨hF_.set 8 rfl,hI⟩
    ·obtain rfl:=bD ‹_›
     refine co (c:=false) (b:=true) (by decide) ?_
     exact ⟨hF_.set 9 rfl,hI⟩
    ·obtain rfl:=bD ‹_›
     refine co (c:=false) (b:=true) (by decide) ?_
     exact ⟨hF_.set 10 rfl,hI⟩
    ·obtain rfl:=cL ‹_›
     obtain rfl:=bH ‹_›
     obtain rfl:=bD ‹_›
     refine co (c:=false) (b:=true) (by decide) ?_
     exact ⟨hF_.set 11 rfl,hI⟩
    ·obtain rfl:=cq ‹_›
     obtain rfl:=ci ‹_›
     obtain rfl:=bT ‹_›
     obtain rfl:=bD ‹_›
     refine co (c:=false) (b:=true) (by decide) ?_
     exact ⟨hF_.set 12 rfl,hI⟩
    ·obtain rfl:=bD ‹_›
     refine co (c:=false) (b:=true) (by decide) ?_
     exact ⟨hF_.set 13 rfl,hI⟩
    ·obtain rfl:=bD ‹_›
     refine co (c:=false) (b:=true) (by decide) ?_
     exact ⟨hF_.set 14 rfl,hI⟩
    ·obtain rfl:=de ‹_›
     obtain rfl:=cB ‹_›
     obtain rfl:=bD ‹_›
     refine co (c:=false) (b:=true) (by decide) ?_
     exact ⟨hF_.set 15 rfl,hI⟩
    ·obtain rfl:=dk ‹_›
     obtain rfl:=bD ‹_›
     refine co (c:=false) (b:=true) (by decide) ?_
     exact ⟨hF_.set 16 rfl,hI⟩
    ·obtain rfl:=cH ‹_›
     obtain rfl:=dw ‹_›
     obtain rfl:=bD ‹_›
     refine co (c:=false) (b:=true) (by decide) ?_
     exact ⟨hF_.set 17 rfl,hI⟩
    ·obtain rfl:=bD ‹_›
     obtain rfl:=dH ‹_›
     refine oD ?_
     exact ⟨hF_.set 18 rfl,hI⟩
    ·obtain rfl:=eE ‹_›
     exact ⟨hF_.set 19 rfl,hI⟩
    ·obtain rfl:=dS ‹_›
     refine co (c:=false) (b:=true) (by decide) ?_
     exact ⟨hF_.set 20 rfl,hI⟩
    ·obtain rfl:=dS ‹_›
     refine co (c:=false) (b:=true) (by decide) ?_
     exact ⟨hF_.set 21 rfl,hI⟩
    ·obtain rfl:=iz ‹_›
     obtain rfl:=dS ‹_›
     refine co (c:=false) (b:=true) (by decide) ?_
     exact ⟨hF_.set 22 rfl,hI⟩
    ·obtain rfl:=fl ‹_›
     obtain rfl:=mY ‹_›
     obtain rfl:=dS ‹_›
     refine co (c:=false) (b:=true) (by decide) ?_
     exact ⟨hF_.set 23 rfl,hI⟩
    ·obtain rfl:=dS ‹_›
     obtain rfl:=qY ‹_›
     refine oD ?_
     exact ⟨hF_.set 24 rfl,hI⟩
    obtain ⟨rfl,rfl,rfl,rfl,rfl,rfl,rfl,rfl,rfl,rfl,rfl,rfl,rfl,rfl,rfl,rfl,rfl,rfl,rfl,rfl,rfl,rfl,rfl,rfl,rfl,_⟩:=hF_.all
    clear hF_ bR bQ bG bS bU bB bD cq ci cL bH bT cH de cB dk dw dH eE dS fl iz mY qY J6
    refine az (fun hb=>by cases hb) (fun _=>?_)
    refine ⟨best,rfl,hbl,?_,hI⟩
    rw [if_neg] at hbest
    ·exact hbest
    ·rintro ⟨h1,_⟩
     rw [decide_eq_true_eq] at h1
     exact hlen h1
  intro t7 _ _ _ _ _ _ _ _ _ _ _ _ _ _ _ _ _ _ _ _ _ _ _ _ _ _ _ _ _ _ _ _ _ _ _ w'
  rintro ⟨best',rfl,hbl',hb',hI⟩
  refine bl (by omega) ?_
  exact ⟨⟨j+1,best',hj,rfl,rfl,hbl',hb',hI⟩,by simp [intOf]; omega⟩
 ·have:j=signs.length:=by omega
  subst this
  rw [List.drop_length,iK] at hbest
  rw [<- hbest] at hnm
  refine bg ?_
  refine aI (fun hb=>?_) (fun hb=>?_)
  ·have:best=[]:=by rw [<- Fq best,hb]
   exact gi hI hle (by rw [hnm,if_pos this]; rfl)
  ·have:¬ best=[]:=fun h=>hb (by rw [h])
   refine fA aT ?_
   refine bl (by omega) ?_
   exact gi hI hle (by rw [hnm,if_neg this]; rfl)
end
theorem xH (s:Bs) (i:Nat):∀ (l:List ByteArray) (b:Bs),(∀ x∈l,x.size<=3)->b.length<=3->i+b.length<=s.length->i+(iK s i l b).length<=s.length/\(iK s i l b).length<=3
 | [],b,_,h2,h3=>⟨h3,h2⟩
 | x::l,b,h1,h2,h3=>by
  rw [iK]
  have hx:(bs x).length=x.size:=Array.length_toList
  split
  ·rename_i h
   exact xH s i l _ (fun y hy=>h1 y (List.mem_cons_of_mem _ hy)) (by rw [hx]; exact h1 x (List.mem_cons_self ..)) (by rw [hx]; exact of_decide_eq_true h.1)
  ·exact xH s i l _ (fun y hy=>h1 y (List.mem_cons_of_mem _ hy)) h2 h3
theorem Nl (s:Bs):∀ (n e:Nat),e<=Ah s n e/\Ah s n e<=e+n
 | 0,e=>by simp [Ah]
 | n+1,e=>by
  rw [Ah]
  split
  ·have:=Nl s n (e+1); omega
  ·omega
theorem wU {s:Bs} {i:Nat} {n:Bs} {e:Nat} (hi:i<s.length) (h:wo s i=some (n,e)):i<e/\e<=s.length/\n.length<=6/\n≠[]:=by
 have hl:=Nl s (s.length - i) i
 have hb:=xH s i signs [] Jj (by simp) (by simpa using Nat.le_of_lt hi)
 unfold wo at h
 simp only [] at h
 split at h
 ·cases h
 ·split at h
  ·simp only [Option.some.injEq,Prod.mk.injEq] at h
   obtain ⟨rfl,rfl⟩:=h
   rename_i h1 h2
   have hc:=Gj (s:=s) (a:=i) (b:=Ah s (s.length - i) i) (by omega)
   refine ⟨h2,by omega,by omega,fun h=>?_⟩
   rw [h] at hc
   simp at hc
   omega
  ·split at h
   ·cases h
   ·simp only [Option.some.injEq,Prod.mk.injEq] at h
    obtain ⟨rfl,rfl⟩:=h
    rename_i h3
    have:0<(iK s i signs []).length:=by
     cases he:iK s i signs [] with
     | nil=>exact absurd he h3
     | cons a l=>simp
    exact ⟨by omega,by omega,by omega,h3⟩
def opV (o:Option (Bs × Nat)) (i:Nat):Value:=match o with
 | none=>.tuple #[.string ⟨#[]⟩,.int .i64 (i:Int)]
 | some (n,e)=>.tuple #[.string (st n),.int .i64 (e:Int)]
theorem P2 {s:Bs} {i:Nat} {n:Bs} {e:Nat} (h:opF s i=some (n,e)):i<e/\e<=s.length/\n.length<=6/\n≠[]:=by
 unfold opF at h
 obtain ⟨fr,hfr⟩:∃ fr,fr=if sgn s i 32=true then i+1 else i:=⟨_,rfl⟩
 simp only [<- hfr] at h
 have hfi:i<=fr:=by rw [hfr]; split <;> omega
 split at h
 ·cases h
 rename_i hlt
 split at h
 ·cases h
 rename_i nm nx hnm
 obtain ⟨h1,h2,h3,h4⟩:=wU (by omega) hnm
 split at h
 ·cases h
 rename_i hc
 simp only [not_or,not_and,Bool.not_eq_false] at hc
 simp only [Option.some.injEq,Prod.mk.injEq] at h
 obtain ⟨rfl,rfl⟩:=h
 refine ⟨by split <;> omega,?_,h3,h4⟩
 split
 ·rename_i hw
  have:=ib (hc.2.2 hw)
  omega
 ·exact h2
section
attribute [local irreducible] Run CondV aB aS
theorem K6 {s:Bs} {i:Nat} (hs:s.length<=100000) (hi:i<=s.length) (S:ae):Pure Tryz.prog OR [.string (st s),.int .i64 (i:Int)] S (opV (opF s i) i):=by
 intro w hI
 refine EQ.2 ?_
 dsimp only[EQ,aW]
 obtain ⟨fr,hfr⟩:∃ fr,fr=if sgn s i 32=true then i+1 else i:=⟨_,rfl⟩
 have hfi:i<=fr/\fr<=i+1:=by rw [hfr]; split <;> omega
 obtain ⟨r,hr⟩:∃ r,r=opF s i:=⟨_,rfl⟩
 rw [<- hr]
 unfold opF at hr
 simp only [<- hfr] at hr
 refine ⟨fun t w'=>t=.int .i64 (fr:Int)/\Inv w [] [] S w',?_,?_⟩
 ·refine Run.callPure cV cZ hI (cN s i 32 S) fun w' hI=>?_
  refine az (fun hb=>?_) (fun hb=>?_)
  ·refine bl (by omega) ?_
   rw [if_pos hb] at hfr
   exact ⟨by rw [hfr]; congr 1,hI⟩
  ·rw [if_neg (by rw [hb]; decide)] at hfr
   exact ⟨by rw [hfr],hI⟩
 intro t6 _ _ _ _ _ w'
 rintro ⟨rfl,hI⟩
 refine fA aT ?_
 refine fw ?_
 refine aI (fun hb=>?_) (fun hb=>?_)
 ·rw [if_pos (by omega)] at hr
  exact done hI (by rw [hr]; rfl)
 rw [if_neg (by omega)] at hr
 refine Run.callPure y4 ze hI (wM (by omega) hs S) fun w' hI=>?_
 cases hnm:wo s fr with
 | none=>
  rw [hnm] at hr
  simp only [] at hr
  simp only [NC]
  refine aj rfl ?_
  refine aj rfl ?_
  refine ⟨fun t w'=>t=.bool true/\Inv w [] [] S w',?_,?_⟩
  ·refine Co (by omega) ?_
   refine rpG ?_
   exact ⟨rfl,hI⟩
  intro t33 _ _ _ _ _ _ w'
  rintro ⟨rfl,hI⟩
  exact az (fun _=>done hI (by rw [hr]; rfl)) (fun hb=>by cases hb)
 | some q=>
  obtain ⟨nm,nx⟩:=q
  rw [hnm] at hr
  simp only [] at hr
  obtain ⟨h1,h2,h3,h4⟩:=wU (by omega) hnm
  simp only [NC]
  refine aj (v:=.string (st nm)) rfl ?_
  refine aj (v:=.int .i64 (nx:Int)) rfl ?_
  refine ⟨fun t w'=>t=.bool (decide (cn (st nm)=0))/\Inv w [] [] S w',?_,?_⟩
  ·refine eO (by omega) ?_
   refine rpG ?_
   refine Run.callPure eH eJ hI (dI _ S) fun w' hI=>?_
   refine aZ ?_
   refine rpG ?_
   exact ⟨rfl,hI⟩
  intro t33 _ _ _ _ _ _ w'
  rintro ⟨rfl,hI⟩
  refine aI (fun hb=>?_) (fun hb=>?_)
  ·rw [if_pos (.inl hb)] at hr
   exact done hI (by rw [hr]; rfl)
  obtain ⟨word,hword⟩:∃ word,word=(decide (nm=[105,115]) || decide (nm=[109,111,100])):=⟨_,rfl⟩
  rw [<- hword] at hr
  refine ⟨fun t w'=>t=.bool word/\Inv w [] [] S w',?_,?_⟩
  ·refine Ca (b:=[105,115]) ?_
   cases h5:decide (nm=[105,115])
   ·refine rpG ?_
    refine Ca (b:=[109,111,100]) ?_
    refine rpG ?_
    exact ⟨by rw [hword,h5,Bool.false_or],hI⟩
   ·refine rpG ?_
    exact ⟨by rw [hword,h5,Bool.true_or],hI⟩
  intro t9 _ _ _ _ _ _ w'
  rintro ⟨rfl,hI⟩
  refine ⟨fun t w'=>t=.bool (decide (word≠decide (i<fr)) || (word && !sgn s nx 32))/\Inv w [] [] S w',?_,?_⟩
  ·refine dl ?_
   refine ME ry ?_
   have e1:decide ((i:Int)<(fr:Int))=decide (i<fr):=by rw [decide_eq_decide]; omega
   rw [e1]
   cases h6:decide (i<fr) <;> cases word
   ·refine rpG ?_
    exact ⟨by rfl,hI⟩
   ·refine rpG ?_
    exact ⟨by rfl,hI⟩
   ·refine rpG ?_
    exact ⟨by rfl,hI⟩
   ·refine rpG ?_
    refine Run.callPure cV cZ hI (cN s nx 32 S) fun w' hI=>?_
    refine bK ?_
    refine rpG ?_
    exact ⟨by simp,hI⟩
  intro t54 _ _ _ _ _ _ _ _ _ _ _ _ _ w'
  rintro ⟨rfl,hI⟩
  refine az (fun hb'=>?_) (fun hb'=>?_)
  ·rw [if_pos] at hr
   ·exact done hI (by rw [hr]; rfl)
   ·rw [Bool.or_eq_true,decide_eq_true_eq,Bool.and_eq_true,Bool.not_eq_true'] at hb'
    exact .inr hb'
  ·rw [if_neg] at hr
   ·refine ⟨fun t w'=>t=.int .i64 ((if word=true then nx+1 else nx:Nat):Int)/\Inv w [] [] S w',?_,?_⟩
    ·refine az (fun hw=>?_) (fun hw=>?_)
     ·refine bl (by omega) ?_
      exact ⟨by rw [if_pos hw]; congr 1,hI⟩
     ·exact ⟨by rw [if_neg (by rw [hw]; decide)],hI⟩
    intro t8 _ _ _ w'
    rintro ⟨rfl,hI⟩
    exact done hI (by rw [hr]; rfl)
   ·rw [Bool.or_eq_false_iff,decide_eq_false_iff_not] at hb'
    rintro (h|h|⟨h,h'⟩)
    ·exact hb h
    ·exact hb'.1 h
    ·rw [h,h'] at hb'
     simp at hb'
end
end Go.Proofs.YtfcbhfjomgopbaaGreat
