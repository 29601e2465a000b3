/- Bytes, numbers, names and operators in texts: spec.l1Sign and its kin. (printed by gen_byt.py) -/
import Derived.Test.YtemmhhdnlbmicaaGreatZMe2
import Derived.Test.YtemmhhdnlbmicaaGreatZMeF
import Derived.Test.YtemmhhdnlbmicaaGreatZMe0
namespace Go.Proofs.YtemmhhdnlbmicaaGreat
open Go Go.RowKit
theorem jC {s:Bs} {i:Nat} (h:i<s.length) (c:Nat):sgn s i c=decide (s[i].toNat=c):=by simp [sgn,List.getElem?_eq_getElem h]
theorem KH {s:Bs} {i:Nat} (h:¬ i<s.length) (c:Nat):sgn s i c=false:=by simp [sgn,List.getElem?_eq_none (Nat.le_of_not_lt h)]
theorem mh {s:Bs} {i:Nat} (h:i<s.length) (a b:Nat):btw s i a b=(decide (a<=s[i].toNat) && decide (s[i].toNat<=b)):=by simp [btw,List.getElem?_eq_getElem h]
theorem Ia {s:Bs} {i:Nat} (h:¬ i<s.length) (a b:Nat):btw s i a b=false:=by simp [btw,List.getElem?_eq_none (Nat.le_of_not_lt h)]
theorem y4 {s:Bs} {i a b:Nat} (h:btw s i a b=true):i<s.length:=by
 rcases Nat.lt_or_ge i s.length with h1|h1
 ·exact h1
 ·rw [Ia (by omega)] at h; cases h
theorem gU {s:Bs} {i c:Nat} (h:sgn s i c=true):i<s.length:=by
 rcases Nat.lt_or_ge i s.length with h1|h1
 ·exact h1
 ·rw [KH (by omega)] at h; cases h
section
attribute [local irreducible] Run CondV ah be
theorem dd (s:Bs) (i c:Nat) (S:aF):Pure Tryz.prog HR [.string (st s),.int .i64 (i:Int),.int .u8 (c:Int)] S (.bool (sgn s i c)):=by
 intro w hI
 refine yC ?_
 unfold wg;dsimp only
 refine l7 (by omega) ?_
 repeat (first|refine ad ?_|refine af (by decide) ?_|refine ac ?_|refine al ?_|refine aj ?_)
 refine fP bj ?_
 by_cases h:i<s.length
 ·refine yG (by omega) ?_
  repeat (first|refine ad ?_|refine af (by decide) ?_|refine ac ?_|refine al ?_|refine aj ?_)
  refine eM bj h ?_
  refine bR ?_
  repeat (first|refine ad ?_|refine af (by decide) ?_|refine ac ?_|refine al ?_|refine aj ?_)
  refine done hI ?_
  rw [jC h]
  congr 1
  rw [decide_eq_decide]
  omega
 ·refine fi (by omega) ?_
  repeat (first|refine ad ?_|refine af (by decide) ?_|refine ac ?_|refine al ?_|refine aj ?_)
  exact done hI (by rw [KH h])
theorem gG (s:Bs) (i:Nat) (S:aF):Pure Tryz.prog FY [.string (st s),.int .i64 (i:Int)] S (.bool (dig s i)):=by
 intro w hI
 refine xc ?_
 unfold s9;dsimp only
 refine l7 (by omega) ?_
 repeat (first|refine ad ?_|refine af (by decide) ?_|refine ac ?_|refine al ?_|refine aj ?_)
 refine fP bj ?_
 by_cases h:i<s.length
 ·refine yG (by omega) ?_
  repeat (first|refine ad ?_|refine af (by decide) ?_|refine ac ?_|refine al ?_|refine aj ?_)
  refine eM bj h ?_
  rw [dig,mh h]
  by_cases h2:48<=s[i].toNat
  ·refine l7 (by omega) ?_
   repeat (first|refine ad ?_|refine af (by decide) ?_|refine ac ?_|refine al ?_|refine aj ?_)
   refine eM bj h ?_
   refine fX ?_
   repeat (first|refine ad ?_|refine af (by decide) ?_|refine ac ?_|refine al ?_|refine aj ?_)
   refine done hI ?_
   rw [decide_eq_true h2,Bool.true_and]
   congr 1
   rw [decide_eq_decide]
   omega
  ·refine uQ (by omega) ?_
   repeat (first|refine ad ?_|refine af (by decide) ?_|refine ac ?_|refine al ?_|refine aj ?_)
   exact done hI (by rw [decide_eq_false h2,Bool.false_and])
 ·refine fi (by omega) ?_
  repeat (first|refine ad ?_|refine af (by decide) ?_|refine ac ?_|refine al ?_|refine aj ?_)
  exact done hI (by rw [dig,Ia h])
theorem mH (s:Bs) (i:Nat) (S:aF):Pure Tryz.prog Ep [.string (st s),.int .i64 (i:Int)] S (.bool (sml s i)):=by
 intro w hI
 refine wB ?_
 unfold r9;dsimp only
 refine l7 (by omega) ?_
 repeat (first|refine ad ?_|refine af (by decide) ?_|refine ac ?_|refine al ?_|refine aj ?_)
 refine fP bj ?_
 by_cases h:i<s.length
 ·refine yG (by omega) ?_
  repeat (first|refine ad ?_|refine af (by decide) ?_|refine ac ?_|refine al ?_|refine aj ?_)
  refine eM bj h ?_
  rw [sml,mh h]
  by_cases h2:97<=s[i].toNat
  ·refine l7 (by omega) ?_
   repeat (first|refine ad ?_|refine af (by decide) ?_|refine ac ?_|refine al ?_|refine aj ?_)
   refine eM bj h ?_
   refine fX ?_
   repeat (first|refine ad ?_|refine af (by decide) ?_|refine ac ?_|refine al ?_|refine aj ?_)
   refine done hI ?_
   rw [decide_eq_true h2,Bool.true_and]
   congr 1
   rw [decide_eq_decide]
   omega
  ·refine uQ (by omega) ?_
   repeat (first|refine ad ?_|refine af (by decide) ?_|refine ac ?_|refine al ?_|refine aj ?_)
   exact done hI (by rw [decide_eq_false h2,Bool.false_and])
 ·refine fi (by omega) ?_
  repeat (first|refine ad ?_|refine af (by decide) ?_|refine ac ?_|refine al ?_|refine aj ?_)
  exact done hI (by rw [sml,Ia h])
end
theorem IY {s:Bs} {i:Nat} (h:i<s.length):dig s i=true↔48<=s[i].toNat/\s[i].toNat<=57:=by
 rw [dig,mh h,Bool.and_eq_true,decide_eq_true_eq,decide_eq_true_eq]
theorem JR {d:Bs} {j:Nat} (h:j<d.length) (m:Nat):AL (d.drop j) m=AL (d.drop (j+1)) (m * 10+(d[j].toNat - 48)):=by
 rw [List.drop_eq_getElem_cons h,AL]
section
attribute [local irreducible] Run CondV ah be
theorem CO (d:Bs) (hd:∀ i,i<d.length->dig d i=true) (h0:0<d.length) (h4:d.length<=4) (hz:¬ (sgn d 0 48=true/\1<d.length)) (S:aF) :
  Pure Tryz.prog HM [.string (st d)] S (.tuple #[.int .i64 ((AL d 0:Nat):Int),.bool true]):=by
 intro w hI
 refine yn ?_
 unfold vV;dsimp only
 have hd0:=(IY h0).1 (hd 0 h0)
 refine ⟨fun t w'=>t=.bool false/\Inv w [] [] S w',?_,?_⟩
 ·refine fP bj ?_
  refine H8 (by omega) ?_
  repeat (first|refine ad ?_|refine af (by decide) ?_|refine ac ?_|refine al ?_|refine aj ?_)
  refine eM (i:=0) bj h0 ?_
  refine eY (by omega) ?_
  repeat (first|refine ad ?_|refine af (by decide) ?_|refine ac ?_|refine al ?_|refine aj ?_)
  exact ⟨rfl,hI⟩
 intro t4 _ _ _ _ _ _ _ _ w'
 rintro ⟨rfl,hI⟩
 refine ⟨fun t w'=>t=.string (st d)/\Inv w [] [] S w',?_,?_⟩
 ·exact ba (fun hb=>by cases hb) (fun _=>⟨rfl,hI⟩)
 intro t0 _ _ _ w'
 rintro ⟨rfl,hI⟩
 refine ⟨fun t w'=>t=.bool false/\Inv w [] [] S w',?_,?_⟩
 ·refine fP bj ?_
  refine eY (by omega) ?_
  repeat (first|refine ad ?_|refine af (by decide) ?_|refine ac ?_|refine al ?_|refine aj ?_)
  refine fP bj ?_
  refine kW (by omega) ?_
  repeat (first|refine ad ?_|refine af (by decide) ?_|refine ac ?_|refine al ?_|refine aj ?_)
  refine eM (i:=0) bj h0 ?_
  by_cases hs:d[0].toNat=48
  ·refine fW (by omega) ?_
   repeat (first|refine ad ?_|refine af (by decide) ?_|refine ac ?_|refine al ?_|refine aj ?_)
   refine fP bj ?_
   refine kW (by
    have:¬ 1<d.length:=fun h=>hz ⟨by rw [jC h0,hs]; rfl,h⟩
    omega) ?_
   repeat (first|refine ad ?_|refine af (by decide) ?_|refine ac ?_|refine al ?_|refine aj ?_)
   exact ⟨rfl,hI⟩
  ·refine eY (by omega) ?_
   repeat (first|refine ad ?_|refine af (by decide) ?_|refine ac ?_|refine al ?_|refine aj ?_)
   exact ⟨rfl,hI⟩
 intro t38 _ _ _ _ _ _ _ _ _ _ _ _ _ _ _ _ _ _ _ _ w'
 rintro ⟨rfl,hI⟩
 refine ba (fun hb=>by cases hb) (fun _=>?_)
 refine ⟨fun i n w'=>∃ j m:Nat,j<=d.length/\i=.int .i64 j/\n=.int .i64 m/\m<10 ^ j/\AL (d.drop j) m=AL d 0/\Inv w [] [] S w',fun i _ _=>d.length - (intOf i).toNat,
  ⟨0,0,Nat.zero_le _,rfl,rfl,by simp,rfl,hI⟩,?_⟩
 intro t6 _ _ t5 _ _ _ _ _ _ _ _ _ _ _ _ _ _ _ _ _ _ _ _ _ _ _ _ w'
 rintro ⟨j,m,hj,rfl,rfl,hm,hval,hI⟩
 have hp:10 ^ j<=10 ^ 4:=Nat.pow_le_pow_right (by omega) (by omega)
 refine fP bj ?_
 refine bW ?_
 refine bl (fun hji=>?_) (fun hji=>?_)
 ·have hj':j<d.length:=by omega
  have hdj:=(IY hj').1 (hd j hj')
  refine ⟨fun t w'=>t=.bool false/\Inv w [] [] S w',?_,?_⟩
  ·refine eM bj hj' ?_
   refine fi (by omega) ?_
   repeat (first|refine ad ?_|refine af (by decide) ?_|refine ac ?_|refine al ?_|refine aj ?_)
   refine eM bj hj' ?_
   refine kW (by omega) ?_
   repeat (first|refine ad ?_|refine af (by decide) ?_|refine ac ?_|refine al ?_|refine aj ?_)
   exact ⟨rfl,hI⟩
  intro t54 _ _ _ _ _ _ _ _ _ w'
  rintro ⟨rfl,hI⟩
  refine ba (fun hb=>by cases hb) (fun _=>?_)
  refine BF (by omega) ?_
  refine eM bj hj' ?_
  refine KI (c:=((d[j].toNat - 48:Nat):Int)) ?_ ?_
  ·rw [IntWalk.u8_in _ (by omega)]; omega
  refine nw gf jJ (IntWalk.i64_in _ (by omega)) ?_
  refine bN (by omega) ?_
  refine bN (by omega) ?_
  refine ⟨⟨j+1,m * 10+(d[j].toNat - 48),hj',rfl,?_,?_,?_,hI⟩,by simp [intOf]; omega⟩
  ·congr 1
  ·rw [Nat.pow_succ]; omega
  ·rw [<- hval,JR hj']
 ·have:j=d.length:=by omega
  subst this
  rw [List.drop_length,AL] at hval
  refine ⟨fun t w'=>t=.int .i64 m/\Inv w [] [] S w',ba (fun hb=>by cases hb) (fun _=>⟨rfl,hI⟩),?_⟩
  intro t5 _ _ _ w'
  rintro ⟨rfl,hI⟩
  exact done hI (by rw [hval])
abbrev Bx (k n:Int):Value:=.agg #[.int .i64 k,.int .i64 n,.string ⟨#[]⟩,.slice none 0 0]
theorem wi {w:World} {K:Value->World->Prop} {k n:Int} (hk:K (Bx k n) w):Run Tryz.prog (dD ab [(0,.int .i64 k),(1,.int .i64 n)]) w K:=by
 refine Run.of (v:=Bx k n) (w':=w) ?_ hk
 unfold dD
 rw [Sem.run_bind,run_build w ab _ #[.int .i64 k,.int .i64 n,.string ⟨#[]⟩,.slice none 0 0] (by kernel_rfl),Result.andThen_ok]
 rfl
theorem pV (n:Int) (S:aF):Pure Tryz.prog JT [.int .i64 n] S (Bx 1 n):=by
 intro w hI
 refine AF ?_
 unfold zD
 refine bH hI bL fun b w' hI=>?_
 refine wi ?_
 refine bg hI 0 rfl ao rfl rfl (by simp [Value.oneCell']) fun w' hI=>?_
 refine cG hI 0 ao rfl rfl ?_
 exact done hI rfl
theorem kM (n:Int) (S:aF):Pure Tryz.prog Jv [.int .i64 n] S (Bx 2 n):=by
 intro w hI
 refine Ah ?_
 unfold xQ
 refine bH hI bL fun b w' hI=>?_
 refine wi ?_
 refine bg hI 0 rfl ao rfl rfl (by simp [Value.oneCell']) fun w' hI=>?_
 refine cG hI 0 ao rfl rfl ?_
 exact done hI rfl
end
theorem Gm (s:Bs) (n e:Nat):pu s (n+1) e=if dig s e=true then pu s n (e+1) else e:=rfl
theorem Dh (s:Bs):∀ (n e:Nat),e<=pu s n e/\pu s n e<=e+n
 | 0,e=>by simp [pu]
 | n+1,e=>by
  rw [pu]
  split
  ·have:=Dh s n (e+1); omega
  ·omega
theorem td (s:Bs):∀ (n e i:Nat),e<=i->i<pu s n e->dig s i=true
 | 0,e,i,h1,h2=>by simp [pu] at h2; omega
 | n+1,e,i,h1,h2=>by
  rw [pu] at h2
  split at h2
  ·rename_i h
   by_cases he:e=i
   ·subst he; exact h
   ·exact td s n (e+1) i (by omega) h2
  ·omega
theorem Dd {s:Bs} {a b i:Nat} (hi:i<(cut s a b).length):∃ h:a+i<s.length,(cut s a b)[i]=s[a+i]/\a+i<b:=by
 have h1:(cut s a b).length=min b s.length - a:=by simp [cut]
 refine ⟨by omega,?_,by omega⟩
 simp [cut]
theorem Cz {s:Bs} {a b:Nat} (hb:b<=s.length):(cut s a b).length=b - a:=by simp [cut]; omega
theorem LW {s:Bs} {a b i:Nat} (hi:i<(cut s a b).length):dig (cut s a b) i=dig s (a+i):=by
 obtain ⟨h,e,_⟩:=Dd hi
 rw [dig,dig,mh hi,mh h,e]
section
attribute [local irreducible] Run CondV ah be
theorem zm {s:Bs} {i e:Nat} {t:T} (hn:Kj s i=some (t,e)) (hi:i<=100000) (S:aF) :
  ∃ n:Int,inI n/\t=.mk 2 n emptyB []/\i<=e/\e<=i+5/\Pure Tryz.prog Dt [.string (st s),.int .i64 (i:Int)] S (.tuple #[Bx 2 n,.int .i64 (e:Int)]):=by
 unfold Kj at hn
 obtain ⟨fr,hfr⟩:∃ fr,fr=if sgn s i 45=true then i+1 else i:=⟨_,rfl⟩
 simp only [<- hfr] at hn
 obtain ⟨en,hen⟩:∃ en,en=pu s 4 fr:=⟨_,rfl⟩
 simp only [<- hen] at hn
 have hle:=Dh s 4 fr
 rw [<- hen] at hle
 have hfi:i<=fr/\fr<=i+1:=by rw [hfr]; split <;> omega
 split at hn
 ·cases hn
 rename_i hc
 simp only [not_or] at hc
 obtain ⟨hc1,hc2,hc3,hc4⟩:=hc
 simp only [Option.some.injEq,Prod.mk.injEq] at hn
 obtain ⟨rfl,rfl⟩:=hn
 have hdig:∀ j,j<(cut s fr en).length->dig (cut s fr en) j=true:=fun j hj=>by
  obtain ⟨h1,h2,h3⟩:=Dd hj
  rw [LW hj]
  exact td s 4 fr _ (by omega) (by rw [<- hen]; exact h3)
 have hlen0:0<(cut s fr en).length:=by
  cases he:cut s fr en with
  | nil=>exact absurd he hc1
  | cons a l=>simp
 have hen2:fr<en:=by
  obtain ⟨_,_,h3⟩:=Dd hlen0
  omega
 have hens:en<=s.length:=by
  have:=td s 4 fr (en - 1) (by omega) (by rw [<- hen]; omega)
  have:=y4 this
  omega
 refine ⟨_,?_,rfl,by omega,by omega,?_⟩
 ·unfold inI; split <;> omega
 intro w hI
 refine tS ?_
 unfold pW;dsimp only
 refine bH hI bL fun b4 w' hI=>?_
 refine ⟨fun t w'=>t=.int .i64 (fr:Int)/\Inv w [] [.blk b4 (.cells #[.int .i64 0,.int .i64 0,.string ⟨#[]⟩,.slice none 0 0] ab)] S w',?_,?_⟩
 ·refine Run.callPure dz dA hI (dd s i 45 S) fun w' hI=>?_
  refine ba (fun hb=>?_) (fun hb=>?_)
  ·refine bN (by omega) ?_
   rw [if_pos hb] at hfr
   exact ⟨by rw [hfr]; congr 1,hI⟩
  ·rw [if_neg (by rw [hb]; decide)] at hfr
   exact ⟨by rw [hfr],hI⟩
 intro t6 _ _ _ _ _ w'
 rintro ⟨rfl,hI⟩
 refine ⟨fun t w'=>∃ j:Nat,t=.int .i64 (j:Int)/\fr<=j/\j<=fr+4/\pu s (fr+4 - j) j=en/\Inv w [] [.blk b4 (.cells #[.int .i64 0,.int .i64 0,.string ⟨#[]⟩,.slice none 0 0] ab)] S w',fun t _=>fr+4 - (intOf t).toNat,
  ⟨fr,rfl,Nat.le_refl _,by omega,by rw [Nat.add_sub_cancel_left]; exact hen.symm,hI⟩,?_⟩
 intro t6 _ _ _ _ _ _ _ _ _ _ _ w'
 rintro ⟨j,rfl,hj1,hj2,hj3,hI⟩
 refine ⟨fun t w'=>t=.bool (dig s j && decide (j<fr+4))/\Inv w [] [.blk b4 (.cells #[.int .i64 0,.int .i64 0,.string ⟨#[]⟩,.slice none 0 0] ab)] S w',?_,?_⟩
 ·refine Run.callPure iX iY hI (gG s j S) fun w' hI=>?_
  cases hdj:dig s j
  ·repeat (first|refine ad ?_|refine af (by decide) ?_|refine ac ?_|refine al ?_|refine aj ?_)
   exact ⟨rfl,hI⟩
  ·repeat (first|refine ad ?_|refine af (by decide) ?_|refine ac ?_|refine al ?_|refine aj ?_)
   refine bN (by omega) ?_
   refine bW ?_
   repeat (first|refine ad ?_|refine af (by decide) ?_|refine ac ?_|refine al ?_|refine aj ?_)
   refine ⟨?_,hI⟩
   rw [Bool.true_and]
   congr 1
   rw [decide_eq_decide]
   omega
 intro t25 _ _ _ _ _ _ _ _ w'
 rintro ⟨rfl,hI⟩
 refine ba (fun hb=>?_) (fun hb=>?_)
 ·rw [Bool.and_eq_true,decide_eq_true_eq] at hb
  refine bN (by omega) ?_
  refine ⟨⟨j+1,rfl,by omega,by omega,?_,hI⟩,by simp [intOf]; omega⟩
  rw [<- hj3,show fr+4 - j=(fr+4 - (j+1))+1 by omega,Gm,if_pos hb.1]
 ·have hje:j=en:=by
   rw [<- hj3]
   by_cases h4:j=fr+4
   ·rw [h4,Nat.sub_self]; rfl
   ·rw [show fr+4 - j=(fr+4 - (j+1))+1 by omega,Gm,if_neg]
    intro hd
    rw [hd,Bool.true_and,decide_eq_false_iff_not] at hb
    omega
  subst hje
  refine y3 bj (by omega) hens ?_
  refine Run.callPure FH Eq hI (CO _ hdig hlen0 (by rw [Cz hens]; omega) hc2 S) fun w' hI=>?_
  obtain ⟨n,hn⟩:∃ n,n=AL (cut s fr j) 0:=⟨_,rfl⟩
  rw [<- hn]
  refine bd (v:=.int .i64 (n:Int)) rfl ?_
  refine bd (v:=.bool true) rfl ?_
  simp only [<- hn] at hc3 hc4 ⊢
  refine ⟨fun t w'=>t=.bool false/\Inv w [] [.blk b4 (.cells #[.int .i64 0,.int .i64 0,.string ⟨#[]⟩,.slice none 0 0] ab)] S w',?_,?_⟩
  ·refine dh ?_
   repeat (first|refine ad ?_|refine af (by decide) ?_|refine ac ?_|refine al ?_|refine aj ?_)
   by_cases hfi':i<fr
   ·refine H8 (by omega) ?_
    repeat (first|refine ad ?_|refine af (by decide) ?_|refine ac ?_|refine al ?_|refine aj ?_)
    refine bR ?_
    have:¬ n=0:=fun h=>hc3 ⟨hfi',h⟩
    rw [decide_eq_false (by omega)]
    repeat (first|refine ad ?_|refine af (by decide) ?_|refine ac ?_|refine al ?_|refine aj ?_)
    refine kW (by omega) ?_
    repeat (first|refine ad ?_|refine af (by decide) ?_|refine ac ?_|refine al ?_|refine aj ?_)
    exact ⟨rfl,hI⟩
   ·refine kW (by omega) ?_
    repeat (first|refine ad ?_|refine af (by decide) ?_|refine ac ?_|refine al ?_|refine aj ?_)
    refine kW (by omega) ?_
    repeat (first|refine ad ?_|refine af (by decide) ?_|refine ac ?_|refine al ?_|refine aj ?_)
    exact ⟨rfl,hI⟩
  intro t50 _ _ _ _ _ _ _ _ _ _ _ _ _ _ w'
  rintro ⟨rfl,hI⟩
  refine ba (fun hb=>by cases hb) (fun _=>?_)
  refine ⟨fun t w'=>t=.int .i64 (if i<fr then -(n:Int) else n)/\Inv w [] [.blk b4 (.cells #[.int .i64 0,.int .i64 0,.string ⟨#[]⟩,.slice none 0 0] ab)] S w',?_,?_⟩
  ·refine eh ?_
   refine bl (fun hb=>?_) (fun hb=>?_)
   ·refine Md (by omega) ?_
    exact ⟨by rw [if_pos (by omega)],hI⟩
   ·exact ⟨by rw [if_neg (by omega)],hI⟩
  intro t8 _ _ _ _ _ w'
  rintro ⟨rfl,hI⟩
  refine Run.callPure qG ql hI (kM _ S) fun w' hI=>?_
  refine bg hI 0 rfl ao rfl rfl (by simp [Value.oneCell']) fun w' hI=>?_
  refine cG hI 0 ao rfl rfl ?_
  exact done hI rfl
end
theorem RdSl.some1 {α:Type} {S:aF} {k:Nat} {R:List Value->α->Prop} {v:Value} {xs:List α} (h:RdSl S k R v xs) (h0:0<xs.length):∃ b o cap,v=.slice (some ⟨b,o,none⟩) xs.length cap:=by
 obtain ⟨b,o,cap,c,E,fz,e,_,_⟩:=h.at_ h0
 exact ⟨b,o,cap,e⟩
theorem E3 (s:Bs) (n e:Nat):wD s (n+1) e=if sml s e=true then wD s n (e+1) else e:=rfl
def Jg (o:Option (Bs × Nat)):Value:=match o with
 | none=>.tuple #[.string ⟨#[]⟩,.int .i64 (-1)]
 | some (n,e)=>.tuple #[.string (st n),.int .i64 (e:Int)]
theorem Ic (s:Bs) (i:Nat) {j:Nat} (h:j<signs.length) (b:Bs):hH s i (signs.drop j) b=hH s i (signs.drop (j+1)) (if decide (i+signs[j].size<=s.length)=true/\cut s i (i+signs[j].size)=bs signs[j]/\b.length<signs[j].size then bs signs[j] else b):=by
 rw [List.drop_eq_getElem_cons h,hH]
theorem EV:∀ x∈signs,x.size<=3:=by decide
section
attribute [local irreducible] Run CondV ah be
theorem rm {s:Bs} {i:Nat} (hi:i<s.length) (hs:s.length<=100000) (S:aF):Pure Tryz.prog Hm [.string (st s),.int .i64 (i:Int)] S (Jg (s3 s i)):=by
 intro w hI
 refine zY ?_
 unfold vg
 obtain ⟨E,hE⟩:∃ E,E=wD s (s.length - i) i:=⟨_,rfl⟩
 have hnm:s3 s i=if i+6<E then none else if i<E then some (cut s i E,E) else if hH s i signs []=[] then none else some (hH s i signs [],i+(hH s i signs []).length):=by
  rw [s3,<- hE]
 refine ⟨fun t w'=>∃ e:Nat,t=.int .i64 (e:Int)/\i<=e/\e<=s.length/\wD s (s.length - e) e=E/\Inv w [] [] S w',fun t _=>s.length - (intOf t).toNat,⟨i,rfl,Nat.le_refl _,by omega,hE.symm,hI⟩,?_⟩
 intro t6 _ _ _ _ _ w'
 rintro ⟨e,rfl,he1,he2,he3,hI⟩
 refine Run.callPure rK sS hI (mH s e S) fun w' hI=>?_
 refine ba (fun hb=>?_) (fun hb=>?_)
 ·have hlt:=y4 hb
  refine bN (by omega) ?_
  refine ⟨⟨e+1,rfl,by omega,by omega,?_,hI⟩,by simp [intOf]; omega⟩
  rw [<- he3,show s.length - e=(s.length - (e+1))+1 by omega,E3,if_pos hb]
 have heE:e=E:=by
  rw [<- he3]
  by_cases h:e=s.length
  ·rw [h,Nat.sub_self,wD]
  ·rw [show s.length - e=(s.length - (e+1))+1 by omega,E3,if_neg (by rw [hb]; decide)]
 subst heE
 refine bN (by omega) ?_
 refine eh ?_
 refine bl (fun hb=>done hI (by rw [hnm,if_pos (by omega)]; rfl)) (fun hb=>?_)
 rw [if_neg (by omega)] at hnm
 refine eh ?_
 refine bl (fun hb=>?_) (fun hb=>?_)
 ·refine y3 bj (by omega) (by omega) ?_
  exact done hI (by rw [hnm,if_pos (by omega)]; rfl)
 rw [if_neg (by omega)] at hnm
 refine Run.call0 rb sU hI (pD S) fun v I' S1 w'=>?_
 rintro ⟨rfl,hle,hr⟩ _ hI
 obtain ⟨b,o,cap,rfl⟩:=RdSl.some1 hr (by decide)
 refine ⟨fun t u w'=>∃ (j:Nat) (best:Bs),j<=signs.length/\t=.int .i64 (j:Int)/\u=.string (st best)/\best.length<=3/\hH s i (signs.drop j) best=hH s i signs []/\Inv w [] [] S1 w',fun t _ _=>signs.length - (intOf t).toNat,
  ⟨0,[],Nat.zero_le _,rfl,rfl,by simp,rfl,hI.nil⟩,?_⟩
 intro t9 _ _ t7 _ _ _ _ t65 t64 t63 t62 t61 t60 t59 t58 t57 t56 t55 t54 t53 t52 t51 t50 t49 t48 t47 t46 t45 t44 t43 t42 t41 _ _ _ _ _ _ _ _ _ _ w'
 rintro ⟨j,best,hj0,rfl,rfl,hbl,hbest,hI⟩
 have h15:signs.length=15:=rfl
 refine a9 hr cR ?_
 refine bW ?_
 refine bl (fun hji=>?_) (fun hji=>?_)
 ·have hj:j<signs.length:=by omega
  obtain ⟨x,hx⟩:∃ x,x=signs[j]:=⟨_,rfl⟩
  have hx3:x.size<=3:=by rw [hx]; exact EV _ (List.getElem_mem hj)
  obtain ⟨b',o',cap',c,E',fz,hsl,hS,hR⟩:=hr.at_ hj
  cases hsl
  have hcx:c[o+j * 1]?=some (.string x):=by rw [hx]; exact bn hR 0 _ rfl
  rw [Ic s i hj,<- hx] at hbest
  refine ⟨fun u w'=>∃ best',u=.string (st best')/\best'.length<=3/\hH s i (signs.drop (j+1)) best'=hH s i signs []/\Inv w [] [] S1 w',?_,?_⟩
  ·refine bk cR hj ?_
   refine dY bm ((hI.cellS hS).trans hcx) ?_
   refine jz bj ?_
   by_cases hlen:i+x.size<=s.length
   ·cases hq:decide (st (cut s i (i+x.size))=x)
    ·skip
     refine ⟨fun D cE cV cH c4 c5 c8 cY db c9 cZ dx di dj cO cL cM cK bT bU cS dq dk dp dr dn w_=>(D 0=true->dn=.int .i64 (i:Int))/\(D 1=true->dr=.int .i64 (x.size:Int))/\(D 2=true->dp=.int .i64 ((i+x.size:Nat):Int))/\(D 3=true->dk=.string (st s))/\(D 4=true->dq=.int .i64 (s.length:Int))/\(D 5=true->cS=.bool true)/\(D 6=true->bU=.bool true)/\(D 7=true->bT=.string (st s))/\(D 8=true->cK=.int .i64 (i:Int))/\(D 9=true->cM=.int .i64 (i:Int))/\(D 10=true->cL=.int .i64 (x.size:Int))/\(D 11=true->cO=.int .i64 ((i+x.size:Nat):Int))/\(D 12=true->dj=.string (st (cut s i (i+x.size))))/\(D 13=true->di=.slice (some ⟨b,o,none⟩) signs.length cap)/\(D 14=true->dx=.int .i64 (j:Int))/\(D 15=true->cZ=.pointer (some ⟨b,o+j * 1,none⟩))/\(D 16=true->c9=.string x)/\(D 17=true->db=.bool false)/\(D 18=true->cY=.bool false)/\(D 19=true->c8=.bool false)/\(D 20=true->c5=undef)/\(D 21=true->c4=undef)/\(D 22=true->cH=undef)/\(D 23=true->cV=undef)/\(D 24=true->cE=.bool false)/\Inv w [] [] S1 w_,⟨ae,ae,ae,ae,ae,ae,ae,ae,ae,ae,ae,ae,ae,ae,ae,ae,ae,ae,ae,ae,ae,ae,ae,ae,ae,hI.draw⟩,⟨?_,?_,?_,?_,?_,?_,?_,?_,?_,?_,?_,?_,?_,?_,?_,?_,?_,?_,?_,?_,?_,?_,?_,?_,?_,trivial⟩,?_⟩
     ·intro D aY  cE cV cH c4 c5 c8 cY db c9 cZ dx di dj cO cL cM cK bT bU cS dq dk dp dr dn w_
      rintro ⟨aA,aB,aC,az,av,aE,aD,aH,aK,aP,ag,ai,aG,aM,aO,aN,aV,aU,aW,aX,aZ,a6,a4,a5,a8,hI⟩
      exact ⟨fun _=>rfl,aB,aC,az,av,aE,aD,aH,aK,aP,ag,ai,aG,aM,aO,aN,aV,aU,aW,aX,aZ,a6,a4,a5,a8,hI⟩
     ·intro D aY  cE cV cH c4 c5 c8 cY db c9 cZ dx di dj cO cL cM cK bT bU cS dq dk dp dr dn w_
      rintro ⟨aA,aB,aC,az,av,aE,aD,aH,aK,aP,ag,ai,aG,aM,aO,aN,aV,aU,aW,aX,aZ,a6,a4,a5,a8,hI⟩
      exact ⟨aA,fun _=>rfl,aC,az,av,aE,aD,aH,aK,aP,ag,ai,aG,aM,aO,aN,aV,aU,aW,aX,aZ,a6,a4,a5,a8,hI⟩
     ·intro D aY b0 il cE cV cH c4 c5 c8 cY db c9 cZ dx di dj cO cL cM cK bT bU cS dq dk dp dr dn w_
      rintro ⟨aA,aB,aC,az,av,aE,aD,aH,aK,aP,ag,ai,aG,aM,aO,aN,aV,aU,aW,aX,aZ,a6,a4,a5,a8,hI⟩
      obtain rfl:=aA b0
      obtain rfl:=aB il
      refine bN (by omega) ?_
      exact ⟨aA,aB,fun _=>rfl,az,av,aE,aD,aH,aK,aP,ag,ai,aG,aM,aO,aN,aV,aU,aW,aX,aZ,a6,a4,a5,a8,hI⟩
     ·intro D aY  cE cV cH c4 c5 c8 cY db c9 cZ dx di dj cO cL cM cK bT bU cS dq dk dp dr dn w_
      rintro ⟨aA,aB,aC,az,av,aE,aD,aH,aK,aP,ag,ai,aG,aM,aO,aN,aV,aU,aW,aX,aZ,a6,a4,a5,a8,hI⟩
      exact ⟨aA,aB,aC,fun _=>rfl,av,aE,aD,aH,aK,aP,ag,ai,aG,aM,aO,aN,aV,aU,aW,aX,aZ,a6,a4,a5,a8,hI⟩
     ·intro D aY dB cE cV cH c4 c5 c8 cY db c9 cZ dx di dj cO cL cM cK bT bU cS dq dk dp dr dn w_
      rintro ⟨aA,aB,aC,az,av,aE,aD,aH,aK,aP,ag,ai,aG,aM,aO,aN,aV,aU,aW,aX,aZ,a6,a4,a5,a8,hI⟩
      obtain rfl:=az dB
      refine fP bj ?_
      exact ⟨aA,aB,aC,az,fun _=>rfl,aE,aD,aH,aK,aP,ag,ai,aG,aM,aO,aN,aV,aU,aW,aX,aZ,a6,a4,a5,a8,hI⟩
     ·intro D aY ec dM cE cV cH c4 c5 c8 cY db c9 cZ dx di dj cO cL cM cK bT bU cS dq dk dp dr dn w_
      rintro ⟨aA,aB,aC,az,av,aE,aD,aH,aK,aP,ag,ai,aG,aM,aO,aN,aV,aU,aW,aX,aZ,a6,a4,a5,a8,hI⟩
      obtain rfl:=aC ec
      obtain rfl:=av dM
      refine Ds (by omega) ?_
      exact ⟨aA,aB,aC,az,av,fun _=>rfl,aD,aH,aK,aP,ag,ai,aG,aM,aO,aN,aV,aU,aW,aX,aZ,a6,a4,a5,a8,hI⟩
     ·intro D aY dT cE cV cH c4 c5 c8 cY db c9 cZ dx di dj cO cL cM cK bT bU cS dq dk dp dr dn w_
      rintro ⟨aA,aB,aC,az,av,aE,aD,aH,aK,aP,ag,ai,aG,aM,aO,aN,aV,aU,aW,aX,aZ,a6,a4,a5,a8,hI⟩
      obtain rfl:=aE dT
      exact ⟨aA,aB,aC,az,av,aE,fun _=>rfl,aH,aK,aP,ag,ai,aG,aM,aO,aN,aV,aU,aW,aX,aZ,a6,a4,a5,a8,hI⟩
     ·intro D aY cJ cE cV cH c4 c5 c8 cY db c9 cZ dx di dj cO cL cM cK bT bU cS dq dk dp dr dn w_
      rintro ⟨aA,aB,aC,az,av,aE,aD,aH,aK,aP,ag,ai,aG,aM,aO,aN,aV,aU,aW,aX,aZ,a6,a4,a5,a8,hI⟩
      obtain rfl:=aD cJ
      refine ad ?_
      exact ⟨aA,aB,aC,az,av,aE,aD,fun _=>rfl,aK,aP,ag,ai,aG,aM,aO,aN,aV,aU,aW,aX,aZ,a6,a4,a5,a8,hI⟩
     ·intro D aY cJ cE cV cH c4 c5 c8 cY db c9 cZ dx di dj cO cL cM cK bT bU cS dq dk dp dr dn w_
      rintro ⟨aA,aB,aC,az,av,aE,aD,aH,aK,aP,ag,ai,aG,aM,aO,aN,aV,aU,aW,aX,aZ,a6,a4,a5,a8,hI⟩
      obtain rfl:=aD cJ
      refine ad ?_
      exact ⟨aA,aB,aC,az,av,aE,aD,aH,fun _=>rfl,aP,ag,ai,aG,aM,aO,aN,aV,aU,aW,aX,aZ,a6,a4,a5,a8,hI⟩
     ·intro D aY cJ cE cV cH c4 c5 c8 cY db c9 cZ dx di dj cO cL cM cK bT bU cS dq dk dp dr dn w_
      rintro ⟨aA,aB,aC,az,av,aE,aD,aH,aK,aP,ag,ai,aG,aM,aO,aN,aV,aU,aW,aX,aZ,a6,a4,a5,a8,hI⟩
      obtain rfl:=aD cJ
      refine ad ?_
      exact ⟨aA,aB,aC,az,av,aE,aD,aH,aK,fun _=>rfl,ag,ai,aG,aM,aO,aN,aV,aU,aW,aX,aZ,a6,a4,a5,a8,hI⟩
     ·intro D aY cJ cE cV cH c4 c5 c8 cY db c9 cZ dx di dj cO cL cM cK bT bU cS dq dk dp dr dn w_
      rintro ⟨aA,aB,aC,az,av,aE,aD,aH,aK,aP,ag,ai,aG,aM,aO,aN,aV,aU,aW,aX,aZ,a6,a4,a5,a8,hI⟩
      obtain rfl:=aD cJ
      refine ad ?_
      exact ⟨aA,aB,aC,az,av,aE,aD,aH,aK,aP,fun _=>rfl,ai,aG,aM,aO,aN,aV,aU,aW,aX,aZ,a6,a4,a5,a8,hI⟩
     ·intro D aY GQ lz lF cE cV cH c4 c5 c8 cY db c9 cZ dx di dj cO cL cM cK bT bU cS dq dk dp dr dn w_
      rintro ⟨aA,aB,aC,az,av,aE,aD,aH,aK,aP,ag,ai,aG,aM,aO,aN,aV,aU,aW,aX,aZ,a6,a4,a5,a8,hI⟩
      obtain rfl:=aP GQ
      obtain rfl:=ag lz
      obtain rfl:=aD lF
      refine ad ?_; refine bN (by omega) ?_
      exact ⟨aA,aB,aC,az,av,aE,aD,aH,aK,aP,ag,fun _=>rfl,aG,aM,aO,aN,aV,aU,aW,aX,aZ,a6,a4,a5,a8,hI⟩
     ·intro D aY d6 gi FL Gv cE cV cH c4 c5 c8 cY db c9 cZ dx di dj cO cL cM cK bT bU cS dq dk dp dr dn w_
      rintro ⟨aA,aB,aC,az,av,aE,aD,aH,aK,aP,ag,ai,aG,aM,aO,aN,aV,aU,aW,aX,aZ,a6,a4,a5,a8,hI⟩
      obtain rfl:=aH d6
      obtain rfl:=aK gi
      obtain rfl:=ai FL
      obtain rfl:=aD Gv
      refine ad ?_; refine y3 bj (by omega) (by omega) ?_
      exact ⟨aA,aB,aC,az,av,aE,aD,aH,aK,aP,ag,ai,fun _=>rfl,aM,aO,aN,aV,aU,aW,aX,aZ,a6,a4,a5,a8,hI⟩
     ·intro D aY cJ cE cV cH c4 c5 c8 cY db c9 cZ dx di dj cO cL cM cK bT bU cS dq dk dp dr dn w_
      rintro ⟨aA,aB,aC,az,av,aE,aD,aH,aK,aP,ag,ai,aG,aM,aO,aN,aV,aU,aW,aX,aZ,a6,a4,a5,a8,hI⟩
      obtain rfl:=aD cJ
      refine ad ?_
      exact ⟨aA,aB,aC,az,av,aE,aD,aH,aK,aP,ag,ai,aG,fun _=>rfl,aO,aN,aV,aU,aW,aX,aZ,a6,a4,a5,a8,hI⟩
     ·intro D aY cJ cE cV cH c4 c5 c8 cY db c9 cZ dx di dj cO cL cM cK bT bU cS dq dk dp dr dn w_
      rintro ⟨aA,aB,aC,az,av,aE,aD,aH,aK,aP,ag,ai,aG,aM,aO,aN,aV,aU,aW,aX,aZ,a6,a4,a5,a8,hI⟩
      obtain rfl:=aD cJ
      refine ad ?_
      exact ⟨aA,aB,aC,az,av,aE,aD,aH,aK,aP,ag,ai,aG,aM,fun _=>rfl,aN,aV,aU,aW,aX,aZ,a6,a4,a5,a8,hI⟩
     ·intro D aY g9 u3 lF cE cV cH c4 c5 c8 cY db c9 cZ dx di dj cO cL cM cK bT bU cS dq dk dp dr dn w_
      rintro ⟨aA,aB,aC,az,av,aE,aD,aH,aK,aP,ag,ai,aG,aM,aO,aN,aV,aU,aW,aX,aZ,a6,a4,a5,a8,hI⟩
      obtain rfl:=aM g9
      obtain rfl:=aO u3
      obtain rfl:=aD lF
      refine ad ?_; refine bk cR hj ?_
      exact ⟨aA,aB,aC,az,av,aE,aD,aH,aK,aP,ag,ai,aG,aM,aO,fun _=>rfl,aV,aU,aW,aX,aZ,a6,a4,a5,a8,hI⟩
     ·intro D aY zq f0 cE cV cH c4 c5 c8 cY db c9 cZ dx di dj cO cL cM cK bT bU cS dq dk dp dr dn w_
      rintro ⟨aA,aB,aC,az,av,aE,aD,aH,aK,aP,ag,ai,aG,aM,aO,aN,aV,aU,aW,aX,aZ,a6,a4,a5,a8,hI⟩
      obtain rfl:=aN zq
      obtain rfl:=aD f0
      refine ad ?_; refine dY bm ((hI.cellS hS).trans hcx) ?_
      exact ⟨aA,aB,aC,az,av,aE,aD,aH,aK,aP,ag,ai,aG,aM,aO,aN,fun _=>rfl,aU,aW,aX,aZ,a6,a4,a5,a8,hI⟩
     ·intro D aY ku vY lF cE cV cH c4 c5 c8 cY db c9 cZ dx di dj cO cL cM cK bT bU cS dq dk dp dr dn w_
      rintro ⟨aA,aB,aC,az,av,aE,aD,aH,aK,aP,ag,ai,aG,aM,aO,aN,aV,aU,aW,aX,aZ,a6,a4,a5,a8,hI⟩
      obtain rfl:=aG ku
      obtain rfl:=aV vY
      obtain rfl:=aD lF
      refine ad ?_; refine cN ?_; rw [hq]
      exact ⟨aA,aB,aC,az,av,aE,aD,aH,aK,aP,ag,ai,aG,aM,aO,aN,aV,fun _=>rfl,aW,aX,aZ,a6,a4,a5,a8,hI⟩
     ·intro D aY cJ Ff cE cV cH c4 c5 c8 cY db c9 cZ dx di dj cO cL cM cK bT bU cS dq dk dp dr dn w_
      rintro ⟨aA,aB,aC,az,av,aE,aD,aH,aK,aP,ag,ai,aG,aM,aO,aN,aV,aU,aW,aX,aZ,a6,a4,a5,a8,hI⟩
      obtain rfl:=aD cJ
      obtain rfl:=aU Ff
      refine al ?_
      exact ⟨aA,aB,aC,az,av,aE,aD,aH,aK,aP,ag,ai,aG,aM,aO,aN,aV,aU,fun _=>rfl,aX,aZ,a6,a4,a5,a8,hI⟩
     ·intro D aY s4 f0 cE cV cH c4 c5 c8 cY db c9 cZ dx di dj cO cL cM cK bT bU cS dq dk dp dr dn w_
      rintro ⟨aA,aB,aC,az,av,aE,aD,aH,aK,aP,ag,ai,aG,aM,aO,aN,aV,aU,aW,aX,aZ,a6,a4,a5,a8,hI⟩
      obtain rfl:=aW s4
      exact ⟨aA,aB,aC,az,av,aE,aD,aH,aK,aP,ag,ai,aG,aM,aO,aN,aV,aU,aW,fun _=>rfl,aZ,a6,a4,a5,a8,hI⟩
     ·intro D aY gD cE cV cH c4 c5 c8 cY db c9 cZ dx di dj cO cL cM cK bT bU cS dq dk dp dr dn w_
      rintro ⟨aA,aB,aC,az,av,aE,aD,aH,aK,aP,ag,ai,aG,aM,aO,aN,aV,aU,aW,aX,aZ,a6,a4,a5,a8,hI⟩
      obtain rfl:=aX gD
      refine af (c:=false) (b:=true) (by decide) ?_
      exact ⟨aA,aB,aC,az,av,aE,aD,aH,aK,aP,ag,ai,aG,aM,aO,aN,aV,aU,aW,aX,fun _=>rfl,a6,a4,a5,a8,hI⟩
     ·intro D aY gD cE cV cH c4 c5 c8 cY db c9 cZ dx di dj cO cL cM cK bT bU cS dq dk dp dr dn w_
      rintro ⟨aA,aB,aC,az,av,aE,aD,aH,aK,aP,ag,ai,aG,aM,aO,aN,aV,aU,aW,aX,aZ,a6,a4,a5,a8,hI⟩
      obtain rfl:=aX gD
      refine af (c:=false) (b:=true) (by decide) ?_
      exact ⟨aA,aB,aC,az,av,aE,aD,aH,aK,aP,ag,ai,aG,aM,aO,aN,aV,aU,aW,aX,aZ,fun _=>rfl,a4,a5,a8,hI⟩
     ·intro D aY yU EM cE cV cH c4 c5 c8 cY db c9 cZ dx di dj cO cL cM cK bT bU cS dq dk dp dr dn w_
      rintro ⟨aA,aB,aC,az,av,aE,aD,aH,aK,aP,ag,ai,aG,aM,aO,aN,aV,aU,aW,aX,aZ,a6,a4,a5,a8,hI⟩
      obtain rfl:=a6 yU
      obtain rfl:=aX EM
      refine af (c:=false) (b:=true) (by decide) ?_
      exact ⟨aA,aB,aC,az,av,aE,aD,aH,aK,aP,ag,ai,aG,aM,aO,aN,aV,aU,aW,aX,aZ,a6,fun _=>rfl,a5,a8,hI⟩
     ·intro D aY zl ET E9 cE cV cH c4 c5 c8 cY db c9 cZ dx di dj cO cL cM cK bT bU cS dq dk dp dr dn w_
      rintro ⟨aA,aB,aC,az,av,aE,aD,aH,aK,aP,ag,ai,aG,aM,aO,aN,aV,aU,aW,aX,aZ,a6,a4,a5,a8,hI⟩
      obtain rfl:=aZ zl
      obtain rfl:=a4 ET
      obtain rfl:=aX E9
      refine af (c:=false) (b:=true) (by decide) ?_
      exact ⟨aA,aB,aC,az,av,aE,aD,aH,aK,aP,ag,ai,aG,aM,aO,aN,aV,aU,aW,aX,aZ,a6,a4,fun _=>rfl,a8,hI⟩
     ·intro D aY gD Gt cE cV cH c4 c5 c8 cY db c9 cZ dx di dj cO cL cM cK bT bU cS dq dk dp dr dn w_
      rintro ⟨aA,aB,aC,az,av,aE,aD,aH,aK,aP,ag,ai,aG,aM,aO,aN,aV,aU,aW,aX,aZ,a6,a4,a5,a8,hI⟩
      obtain rfl:=aX gD
      obtain rfl:=a5 Gt
      refine aj ?_
      exact ⟨aA,aB,aC,az,av,aE,aD,aH,aK,aP,ag,ai,aG,aM,aO,aN,aV,aU,aW,aX,aZ,a6,a4,a5,fun _=>rfl,hI⟩
     intro D C5 Dm CB D3 Ed CU zL za zG mQ m0 nh iO fk fw iK gI fK fL fH fC fB fE fM fJ cE cV cH c4 c5 c8 cY db c9 cZ dx di dj cO cL cM cK bT bU cS dq dk dp dr dn w_
     rintro ⟨aA,aB,aC,az,av,aE,aD,aH,aK,aP,ag,ai,aG,aM,aO,aN,aV,aU,aW,aX,aZ,a6,a4,a5,a8,hI⟩
     obtain rfl:=a8 C5
     obtain rfl:=a5 Dm
     obtain rfl:=a4 CB
     obtain rfl:=a6 D3
     obtain rfl:=aZ Ed
     obtain rfl:=aX CU
     obtain rfl:=aW zL
     obtain rfl:=aU za
     obtain rfl:=aV zG
     obtain rfl:=aN mQ
     obtain rfl:=aO m0
     obtain rfl:=aM nh
     obtain rfl:=aG iO
     obtain rfl:=ai fk
     obtain rfl:=ag fw
     obtain rfl:=aP iK
     obtain rfl:=aK gI
     obtain rfl:=aH fK
     obtain rfl:=aD fL
     obtain rfl:=aE fH
     obtain rfl:=av fC
     obtain rfl:=az fB
     obtain rfl:=aC fE
     obtain rfl:=aB fM
     obtain rfl:=aA fJ
     clear aA aB aC az av aE aD aH aK aP ag ai aG aM aO aN aV aU aW aX aZ a6 a4 a5 a8
     refine ba (fun hb=>by cases hb) (fun _=>?_)
     refine ⟨best,rfl,hbl,?_,hI⟩
     rw [if_neg] at hbest
     ·exact hbest
     ·rintro ⟨_,h2,_⟩
      rw [decide_eq_false_iff_not] at hq
      exact hq (by rw [h2])
    ·rw [decide_eq_true_eq] at hq
     have hq':=hq
     have hq:decide (st (cut s i (i+x.size))=x)=true:=decide_eq_true hq'
     skip
     refine ⟨fun D cE cV cH c4 c5 c8 cY db c9 cZ dx di dj cO cL cM cK bT bU cS dq dk dp dr dn w_=>(D 0=true->dn=.int .i64 (i:Int))/\(D 1=true->dr=.int .i64 (x.size:Int))/\(D 2=true->dp=.int .i64 ((i+x.size:Nat):Int))/\(D 3=true->dk=.string (st s))/\(D 4=true->dq=.int .i64 (s.length:Int))/\(D 5=true->cS=.bool true)/\(D 6=true->bU=.bool true)/\(D 7=true->bT=.string (st s))/\(D 8=true->cK=.int .i64 (i:Int))/\(D 9=true->cM=.int .i64 (i:Int))/\(D 10=true->cL=.int .i64 (x.size:Int))/\(D 11=true->cO=.int .i64 ((i+x.size:Nat):Int))/\(D 12=true->dj=.string (st (cut s i (i+x.size))))/\(D 13=true->di=.slice (some ⟨b,o,none⟩) signs.length cap)/\(D 14=true->dx=.int .i64 (j:Int))/\(D 15=true->cZ=.pointer (some ⟨b,o+j * 1,none⟩))/\(D 16=true->c9=.string x)/\(D 17=true->db=.bool true)/\(D 18=true->cY=.bool true)/\(D 19=true->c8=.bool true)/\(D 20=true->c5=.int .i64 (x.size:Int))/\(D 21=true->c4=.string (st best))/\(D 22=true->cH=.int .i64 (best.length:Int))/\(D 23=true->cV=.bool (decide ((best.length:Int)<(x.size:Int))))/\(D 24=true->cE=.bool (decide ((best.length:Int)<(x.size:Int))))/\Inv w [] [] S1 w_,⟨ae,ae,ae,ae,ae,ae,ae,ae,ae,ae,ae,ae,ae,ae,ae,ae,ae,ae,ae,ae,ae,ae,ae,ae,ae,hI.draw⟩,⟨?_,?_,?_,?_,?_,?_,?_,?_,?_,?_,?_,?_,?_,?_,?_,?_,?_,?_,?_,?_,?_,?_,?_,?_,?_,trivial⟩,?_⟩
     ·intro D aY  cE cV cH c4 c5 c8 cY db c9 cZ dx di dj cO cL cM cK bT bU cS dq dk dp dr dn w_
      rintro ⟨aA,aB,aC,az,av,aE,aD,aH,aK,aP,ag,ai,aG,aM,aO,aN,aV,aU,aW,aX,aZ,a6,a4,a5,a8,hI⟩
      exact ⟨fun _=>rfl,aB,aC,az,av,aE,aD,aH,aK,aP,ag,ai,aG,aM,aO,aN,aV,aU,aW,aX,aZ,a6,a4,a5,a8,hI⟩
     ·intro D aY  cE cV cH c4 c5 c8 cY db c9 cZ dx di dj cO cL cM cK bT bU cS dq dk dp dr dn w_
      rintro ⟨aA,aB,aC,az,av,aE,aD,aH,aK,aP,ag,ai,aG,aM,aO,aN,aV,aU,aW,aX,aZ,a6,a4,a5,a8,hI⟩
      exact ⟨aA,fun _=>rfl,aC,az,av,aE,aD,aH,aK,aP,ag,ai,aG,aM,aO,aN,aV,aU,aW,aX,aZ,a6,a4,a5,a8,hI⟩
     ·intro D aY b0 il cE cV cH c4 c5 c8 cY db c9 cZ dx di dj cO cL cM cK bT bU cS dq dk dp dr dn w_
      rintro ⟨aA,aB,aC,az,av,aE,aD,aH,aK,aP,ag,ai,aG,aM,aO,aN,aV,aU,aW,aX,aZ,a6,a4,a5,a8,hI⟩
      obtain rfl:=aA b0
      obtain rfl:=aB il
      refine bN (by omega) ?_
      exact ⟨aA,aB,fun _=>rfl,az,av,aE,aD,aH,aK,aP,ag,ai,aG,aM,aO,aN,aV,aU,aW,aX,aZ,a6,a4,a5,a8,hI⟩
     ·intro D aY  cE cV cH c4 c5 c8 cY db c9 cZ dx di dj cO cL cM cK bT bU cS dq dk dp dr dn w_
      rintro ⟨aA,aB,aC,az,av,aE,aD,aH,aK,aP,ag,ai,aG,aM,aO,aN,aV,aU,aW,aX,aZ,a6,a4,a5,a8,hI⟩
      exact ⟨aA,aB,aC,fun _=>rfl,av,aE,aD,aH,aK,aP,ag,ai,aG,aM,aO,aN,aV,aU,aW,aX,aZ,a6,a4,a5,a8,hI⟩
     ·intro D aY dB cE cV cH c4 c5 c8 cY db c9 cZ dx di dj cO cL cM cK bT bU cS dq dk dp dr dn w_
      rintro ⟨aA,aB,aC,az,av,aE,aD,aH,aK,aP,ag,ai,aG,aM,aO,aN,aV,aU,aW,aX,aZ,a6,a4,a5,a8,hI⟩
      obtain rfl:=az dB
      refine fP bj ?_
      exact ⟨aA,aB,aC,az,fun _=>rfl,aE,aD,aH,aK,aP,ag,ai,aG,aM,aO,aN,aV,aU,aW,aX,aZ,a6,a4,a5,a8,hI⟩
     ·intro D aY ec dM cE cV cH c4 c5 c8 cY db c9 cZ dx di dj cO cL cM cK bT bU cS dq dk dp dr dn w_
      rintro ⟨aA,aB,aC,az,av,aE,aD,aH,aK,aP,ag,ai,aG,aM,aO,aN,aV,aU,aW,aX,aZ,a6,a4,a5,a8,hI⟩
      obtain rfl:=aC ec
      obtain rfl:=av dM
      refine Ds (by omega) ?_
      exact ⟨aA,aB,aC,az,av,fun _=>rfl,aD,aH,aK,aP,ag,ai,aG,aM,aO,aN,aV,aU,aW,aX,aZ,a6,a4,a5,a8,hI⟩
     ·intro D aY dT cE cV cH c4 c5 c8 cY db c9 cZ dx di dj cO cL cM cK bT bU cS dq dk dp dr dn w_
      rintro ⟨aA,aB,aC,az,av,aE,aD,aH,aK,aP,ag,ai,aG,aM,aO,aN,aV,aU,aW,aX,aZ,a6,a4,a5,a8,hI⟩
      obtain rfl:=aE dT
      exact ⟨aA,aB,aC,az,av,aE,fun _=>rfl,aH,aK,aP,ag,ai,aG,aM,aO,aN,aV,aU,aW,aX,aZ,a6,a4,a5,a8,hI⟩
     ·intro D aY cJ cE cV cH c4 c5 c8 cY db c9 cZ dx di dj cO cL cM cK bT bU cS dq dk dp dr dn w_
      rintro ⟨aA,aB,aC,az,av,aE,aD,aH,aK,aP,ag,ai,aG,aM,aO,aN,aV,aU,aW,aX,aZ,a6,a4,a5,a8,hI⟩
      obtain rfl:=aD cJ
      refine ad ?_
      exact ⟨aA,aB,aC,az,av,aE,aD,fun _=>rfl,aK,aP,ag,ai,aG,aM,aO,aN,aV,aU,aW,aX,aZ,a6,a4,a5,a8,hI⟩
     ·intro D aY cJ cE cV cH c4 c5 c8 cY db c9 cZ dx di dj cO cL cM cK bT bU cS dq dk dp dr dn w_
      rintro ⟨aA,aB,aC,az,av,aE,aD,aH,aK,aP,ag,ai,aG,aM,aO,aN,aV,aU,aW,aX,aZ,a6,a4,a5,a8,hI⟩
      obtain rfl:=aD cJ
      refine ad ?_
      exact ⟨aA,aB,aC,az,av,aE,aD,aH,fun _=>rfl,aP,ag,ai,aG,aM,aO,aN,aV,aU,aW,aX,aZ,a6,a4,a5,a8,hI⟩
     ·intro D aY cJ cE cV cH c4 c5 c8 cY db c9 cZ dx di dj cO cL cM cK bT bU cS dq dk dp dr dn w_
      rintro ⟨aA,aB,aC,az,av,aE,aD,aH,aK,aP,ag,ai,aG,aM,aO,aN,aV,aU,aW,aX,aZ,a6,a4,a5,a8,hI⟩
      obtain rfl:=aD cJ
      refine ad ?_
      exact ⟨aA,aB,aC,az,av,aE,aD,aH,aK,fun _=>rfl,ag,ai,aG,aM,aO,aN,aV,aU,aW,aX,aZ,a6,a4,a5,a8,hI⟩
     ·intro D aY cJ cE cV cH c4 c5 c8 cY db c9 cZ dx di dj cO cL cM cK bT bU cS dq dk dp dr dn w_
      rintro ⟨aA,aB,aC,az,av,aE,aD,aH,aK,aP,ag,ai,aG,aM,aO,aN,aV,aU,aW,aX,aZ,a6,a4,a5,a8,hI⟩
      obtain rfl:=aD cJ
      refine ad ?_
      exact ⟨aA,aB,aC,az,av,aE,aD,aH,aK,aP,fun _=>rfl,ai,aG,aM,aO,aN,aV,aU,aW,aX,aZ,a6,a4,a5,a8,hI⟩
     ·intro D aY GQ lz lF cE cV cH c4 c5 c8 cY db c9 cZ dx di dj cO cL cM cK bT bU cS dq dk dp dr dn w_
      rintro ⟨aA,aB,aC,az,av,aE,aD,aH,aK,aP,ag,ai,aG,aM,aO,aN,aV,aU,aW,aX,aZ,a6,a4,a5,a8,hI⟩
      obtain rfl:=aP GQ
      obtain rfl:=ag lz
      obtain rfl:=aD lF
      refine ad ?_; refine bN (by omega) ?_
      exact ⟨aA,aB,aC,az,av,aE,aD,aH,aK,aP,ag,fun _=>rfl,aG,aM,aO,aN,aV,aU,aW,aX,aZ,a6,a4,a5,a8,hI⟩
     ·intro D aY d6 gi FL Gv cE cV cH c4 c5 c8 cY db c9 cZ dx di dj cO cL cM cK bT bU cS dq dk dp dr dn w_
      rintro ⟨aA,aB,aC,az,av,aE,aD,aH,aK,aP,ag,ai,aG,aM,aO,aN,aV,aU,aW,aX,aZ,a6,a4,a5,a8,hI⟩
      obtain rfl:=aH d6
      obtain rfl:=aK gi
      obtain rfl:=ai FL
      obtain rfl:=aD Gv
      refine ad ?_; refine y3 bj (by omega) (by omega) ?_
      exact ⟨aA,aB,aC,az,av,aE,aD,aH,aK,aP,ag,ai,fun _=>rfl,aM,aO,aN,aV,aU,aW,aX,aZ,a6,a4,a5,a8,hI⟩
     ·intro D aY cJ cE cV cH c4 c5 c8 cY db c9 cZ dx di dj cO cL cM cK bT bU cS dq dk dp dr dn w_
      rintro ⟨aA,aB,aC,az,av,aE,aD,aH,aK,aP,ag,ai,aG,aM,aO,aN,aV,aU,aW,aX,aZ,a6,a4,a5,a8,hI⟩
      obtain rfl:=aD cJ
      refine ad ?_
      exact ⟨aA,aB,aC,az,av,aE,aD,aH,aK,aP,ag,ai,aG,fun _=>rfl,aO,aN,aV,aU,aW,aX,aZ,a6,a4,a5,a8,hI⟩
     ·intro D aY cJ cE cV cH c4 c5 c8 cY db c9 cZ dx di dj cO cL cM cK bT bU cS dq dk dp dr dn w_
      rintro ⟨aA,aB,aC,az,av,aE,aD,aH,aK,aP,ag,ai,aG,aM,aO,aN,aV,aU,aW,aX,aZ,a6,a4,a5,a8,hI⟩
      obtain rfl:=aD cJ
      refine ad ?_
      exact ⟨aA,aB,aC,az,av,aE,aD,aH,aK,aP,ag,ai,aG,aM,fun _=>rfl,aN,aV,aU,aW,aX,aZ,a6,a4,a5,a8,hI⟩
     ·intro D aY g9 u3 lF cE cV cH c4 c5 c8 cY db c9 cZ dx di dj cO cL cM cK bT bU cS dq dk dp dr dn w_
      rintro ⟨aA,aB,aC,az,av,aE,aD,aH,aK,aP,ag,ai,aG,aM,aO,aN,aV,aU,aW,aX,aZ,a6,a4,a5,a8,hI⟩
      obtain rfl:=aM g9
      obtain rfl:=aO u3
      obtain rfl:=aD lF
      refine ad ?_; refine bk cR hj ?_
      exact ⟨aA,aB,aC,az,av,aE,aD,aH,aK,aP,ag,ai,aG,aM,aO,fun _=>rfl,aV,aU,aW,aX,aZ,a6,a4,a5,a8,hI⟩
     ·intro D aY zq f0 cE cV cH c4 c5 c8 cY db c9 cZ dx di dj cO cL cM cK bT bU cS dq dk dp dr dn w_
      rintro ⟨aA,aB,aC,az,av,aE,aD,aH,aK,aP,ag,ai,aG,aM,aO,aN,aV,aU,aW,aX,aZ,a6,a4,a5,a8,hI⟩
      obtain rfl:=aN zq
      obtain rfl:=aD f0
      refine ad ?_; refine dY bm ((hI.cellS hS).trans hcx) ?_
      exact ⟨aA,aB,aC,az,av,aE,aD,aH,aK,aP,ag,ai,aG,aM,aO,aN,fun _=>rfl,aU,aW,aX,aZ,a6,a4,a5,a8,hI⟩
     ·intro D aY ku vY lF cE cV cH c4 c5 c8 cY db c9 cZ dx di dj cO cL cM cK bT bU cS dq dk dp dr dn w_
      rintro ⟨aA,aB,aC,az,av,aE,aD,aH,aK,aP,ag,ai,aG,aM,aO,aN,aV,aU,aW,aX,aZ,a6,a4,a5,a8,hI⟩
      obtain rfl:=aG ku
      obtain rfl:=aV vY
      obtain rfl:=aD lF
      refine ad ?_; refine cN ?_; rw [hq]
      exact ⟨aA,aB,aC,az,av,aE,aD,aH,aK,aP,ag,ai,aG,aM,aO,aN,aV,fun _=>rfl,aW,aX,aZ,a6,a4,a5,a8,hI⟩
     ·intro D aY cJ Ff cE cV cH c4 c5 c8 cY db c9 cZ dx di dj cO cL cM cK bT bU cS dq dk dp dr dn w_
      rintro ⟨aA,aB,aC,az,av,aE,aD,aH,aK,aP,ag,ai,aG,aM,aO,aN,aV,aU,aW,aX,aZ,a6,a4,a5,a8,hI⟩
      obtain rfl:=aD cJ
      obtain rfl:=aU Ff
      refine al ?_
      exact ⟨aA,aB,aC,az,av,aE,aD,aH,aK,aP,ag,ai,aG,aM,aO,aN,aV,aU,fun _=>rfl,aX,aZ,a6,a4,a5,a8,hI⟩
     ·intro D aY s4 f0 cE cV cH c4 c5 c8 cY db c9 cZ dx di dj cO cL cM cK bT bU cS dq dk dp dr dn w_
      rintro ⟨aA,aB,aC,az,av,aE,aD,aH,aK,aP,ag,ai,aG,aM,aO,aN,aV,aU,aW,aX,aZ,a6,a4,a5,a8,hI⟩
      obtain rfl:=aW s4
      exact ⟨aA,aB,aC,az,av,aE,aD,aH,aK,aP,ag,ai,aG,aM,aO,aN,aV,aU,aW,fun _=>rfl,aZ,a6,a4,a5,a8,hI⟩
     ·intro D aY gD cE cV cH c4 c5 c8 cY db c9 cZ dx di dj cO cL cM cK bT bU cS dq dk dp dr dn w_
      rintro ⟨aA,aB,aC,az,av,aE,aD,aH,aK,aP,ag,ai,aG,aM,aO,aN,aV,aU,aW,aX,aZ,a6,a4,a5,a8,hI⟩
      obtain rfl:=aX gD
      refine ad ?_
      exact ⟨aA,aB,aC,az,av,aE,aD,aH,aK,aP,ag,ai,aG,aM,aO,aN,aV,aU,aW,aX,fun _=>rfl,a6,a4,a5,a8,hI⟩
     ·intro D aY gD cE cV cH c4 c5 c8 cY db c9 cZ dx di dj cO cL cM cK bT bU cS dq dk dp dr dn w_
      rintro ⟨aA,aB,aC,az,av,aE,aD,aH,aK,aP,ag,ai,aG,aM,aO,aN,aV,aU,aW,aX,aZ,a6,a4,a5,a8,hI⟩
      obtain rfl:=aX gD
      refine ad ?_
      exact ⟨aA,aB,aC,az,av,aE,aD,aH,aK,aP,ag,ai,aG,aM,aO,aN,aV,aU,aW,aX,aZ,fun _=>rfl,a4,a5,a8,hI⟩
     ·intro D aY yU EM cE cV cH c4 c5 c8 cY db c9 cZ dx di dj cO cL cM cK bT bU cS dq dk dp dr dn w_
      rintro ⟨aA,aB,aC,az,av,aE,aD,aH,aK,aP,ag,ai,aG,aM,aO,aN,aV,aU,aW,aX,aZ,a6,a4,a5,a8,hI⟩
      obtain rfl:=a6 yU
      obtain rfl:=aX EM
      refine ad ?_; refine fP bj ?_
      exact ⟨aA,aB,aC,az,av,aE,aD,aH,aK,aP,ag,ai,aG,aM,aO,aN,aV,aU,aW,aX,aZ,a6,fun _=>rfl,a5,a8,hI⟩
     ·intro D aY zl ET E9 cE cV cH c4 c5 c8 cY db c9 cZ dx di dj cO cL cM cK bT bU cS dq dk dp dr dn w_
      rintro ⟨aA,aB,aC,az,av,aE,aD,aH,aK,aP,ag,ai,aG,aM,aO,aN,aV,aU,aW,aX,aZ,a6,a4,a5,a8,hI⟩
      obtain rfl:=aZ zl
      obtain rfl:=a4 ET
      obtain rfl:=aX E9
      refine ad ?_; refine eh ?_
      exact ⟨aA,aB,aC,az,av,aE,aD,aH,aK,aP,ag,ai,aG,aM,aO,aN,aV,aU,aW,aX,aZ,a6,a4,fun _=>rfl,a8,hI⟩
     ·intro D aY gD Gt cE cV cH c4 c5 c8 cY db c9 cZ dx di dj cO cL cM cK bT bU cS dq dk dp dr dn w_
      rintro ⟨aA,aB,aC,az,av,aE,aD,aH,aK,aP,ag,ai,aG,aM,aO,aN,aV,aU,aW,aX,aZ,a6,a4,a5,a8,hI⟩
      obtain rfl:=aX gD
      obtain rfl:=a5 Gt
      refine al ?_
      exact ⟨aA,aB,aC,az,av,aE,aD,aH,aK,aP,ag,ai,aG,aM,aO,aN,aV,aU,aW,aX,aZ,a6,a4,a5,fun _=>rfl,hI⟩
     intro D C5 Dm CB D3 Ed CU zL za zG mQ m0 nh iO fk fw iK gI fK fL fH fC fB fE fM fJ cE cV cH c4 c5 c8 cY db c9 cZ dx di dj cO cL cM cK bT bU cS dq dk dp dr dn w_
     rintro ⟨aA,aB,aC,az,av,aE,aD,aH,aK,aP,ag,ai,aG,aM,aO,aN,aV,aU,aW,aX,aZ,a6,a4,a5,a8,hI⟩
     obtain rfl:=a8 C5
     obtain rfl:=a5 Dm
     obtain rfl:=a4 CB
     obtain rfl:=a6 D3
     obtain rfl:=aZ Ed
     obtain rfl:=aX CU
     obtain rfl:=aW zL
     obtain rfl:=aU za
     obtain rfl:=aV zG
     obtain rfl:=aN mQ
     obtain rfl:=aO m0
     obtain rfl:=aM nh
     obtain rfl:=aG iO
     obtain rfl:=ai fk
     obtain rfl:=ag fw
     obtain rfl:=aP iK
     obtain rfl:=aK gI
     obtain rfl:=aH fK
     obtain rfl:=aD fL
     obtain rfl:=aE fH
     obtain rfl:=av fC
     obtain rfl:=az fB
     obtain rfl:=aC fE
     obtain rfl:=aB fM
     obtain rfl:=aA fJ
     clear aA aB aC az av aE aD aH aK aP ag ai aG aM aO aN aV aU aW aX aZ a6 a4 a5 a8
     have hcut:cut s i (i+x.size)=bs x:=by rw [<- BK (cut s i (i+x.size)),hq']
     refine bl (fun hb=>?_) (fun hb=>?_)
     ·refine bk cR hj ?_
      refine dY bm ((hI.cellS hS).trans hcx) ?_
      refine ⟨bs x,rfl,by rw [<- hcut,Cz hlen]; omega,?_,hI⟩
      rw [if_pos ⟨decide_eq_true hlen,hcut,by omega⟩] at hbest
      exact hbest
     ·refine ⟨best,rfl,hbl,?_,hI⟩
      rw [if_neg] at hbest
      ·exact hbest
      ·rintro ⟨_,_,h3⟩
       omega
   ·skip
    refine ⟨fun D cE cV cH c4 c5 c8 cY db c9 cZ dx di dj cO cL cM cK bT bU cS dq dk dp dr dn w_=>(D 0=true->dn=.int .i64 (i:Int))/\(D 1=true->dr=.int .i64 (x.size:Int))/\(D 2=true->dp=.int .i64 ((i+x.size:Nat):Int))/\(D 3=true->dk=.string (st s))/\(D 4=true->dq=.int .i64 (s.length:Int))/\(D 5=true->cS=.bool false)/\(D 6=true->bU=.bool false)/\(D 7=true->bT=undef)/\(D 8=true->cK=undef)/\(D 9=true->cM=undef)/\(D 10=true->cL=undef)/\(D 11=true->cO=undef)/\(D 12=true->dj=undef)/\(D 13=true->di=undef)/\(D 14=true->dx=undef)/\(D 15=true->cZ=undef)/\(D 16=true->c9=undef)/\(D 17=true->db=undef)/\(D 18=true->cY=.bool false)/\(D 19=true->c8=.bool false)/\(D 20=true->c5=undef)/\(D 21=true->c4=undef)/\(D 22=true->cH=undef)/\(D 23=true->cV=undef)/\(D 24=true->cE=.bool false)/\Inv w [] [] S1 w_,⟨ae,ae,ae,ae,ae,ae,ae,ae,ae,ae,ae,ae,ae,ae,ae,ae,ae,ae,ae,ae,ae,ae,ae,ae,ae,hI.draw⟩,⟨?_,?_,?_,?_,?_,?_,?_,?_,?_,?_,?_,?_,?_,?_,?_,?_,?_,?_,?_,?_,?_,?_,?_,?_,?_,trivial⟩,?_⟩
    ·intro D aY  cE cV cH c4 c5 c8 cY db c9 cZ dx di dj cO cL cM cK bT bU cS dq dk dp dr dn w_
     rintro ⟨aA,aB,aC,az,av,aE,aD,aH,aK,aP,ag,ai,aG,aM,aO,aN,aV,aU,aW,aX,aZ,a6,a4,a5,a8,hI⟩
     exact ⟨fun _=>rfl,aB,aC,az,av,aE,aD,aH,aK,aP,ag,ai,aG,aM,aO,aN,aV,aU,aW,aX,aZ,a6,a4,a5,a8,hI⟩
    ·intro D aY  cE cV cH c4 c5 c8 cY db c9 cZ dx di dj cO cL cM cK bT bU cS dq dk dp dr dn w_
     rintro ⟨aA,aB,aC,az,av,aE,aD,aH,aK,aP,ag,ai,aG,aM,aO,aN,aV,aU,aW,aX,aZ,a6,a4,a5,a8,hI⟩
     exact ⟨aA,fun _=>rfl,aC,az,av,aE,aD,aH,aK,aP,ag,ai,aG,aM,aO,aN,aV,aU,aW,aX,aZ,a6,a4,a5,a8,hI⟩
    ·intro D aY b0 il cE cV cH c4 c5 c8 cY db c9 cZ dx di dj cO cL cM cK bT bU cS dq dk dp dr dn w_
     rintro ⟨aA,aB,aC,az,av,aE,aD,aH,aK,aP,ag,ai,aG,aM,aO,aN,aV,aU,aW,aX,aZ,a6,a4,a5,a8,hI⟩
     obtain rfl:=aA b0
     obtain rfl:=aB il
     refine bN (by omega) ?_
     exact ⟨aA,aB,fun _=>rfl,az,av,aE,aD,aH,aK,aP,ag,ai,aG,aM,aO,aN,aV,aU,aW,aX,aZ,a6,a4,a5,a8,hI⟩
    ·intro D aY  cE cV cH c4 c5 c8 cY db c9 cZ dx di dj cO cL cM cK bT bU cS dq dk dp dr dn w_
     rintro ⟨aA,aB,aC,az,av,aE,aD,aH,aK,aP,ag,ai,aG,aM,aO,aN,aV,aU,aW,aX,aZ,a6,a4,a5,a8,hI⟩
     exact ⟨aA,aB,aC,fun _=>rfl,av,aE,aD,aH,aK,aP,ag,ai,aG,aM,aO,aN,aV,aU,aW,aX,aZ,a6,a4,a5,a8,hI⟩
    ·intro D aY dB cE cV cH c4 c5 c8 cY db c9 cZ dx di dj cO cL cM cK bT bU cS dq dk dp dr dn w_
     rintro ⟨aA,aB,aC,az,av,aE,aD,aH,aK,aP,ag,ai,aG,aM,aO,aN,aV,aU,aW,aX,aZ,a6,a4,a5,a8,hI⟩
     obtain rfl:=az dB
     refine fP bj ?_
     exact ⟨aA,aB,aC,az,fun _=>rfl,aE,aD,aH,aK,aP,ag,ai,aG,aM,aO,aN,aV,aU,aW,aX,aZ,a6,a4,a5,a8,hI⟩
    ·intro D aY ec dM cE cV cH c4 c5 c8 cY db c9 cZ dx di dj cO cL cM cK bT bU cS dq dk dp dr dn w_
     rintro ⟨aA,aB,aC,az,av,aE,aD,aH,aK,aP,ag,ai,aG,aM,aO,aN,aV,aU,aW,aX,aZ,a6,a4,a5,a8,hI⟩
     obtain rfl:=aC ec
     obtain rfl:=av dM
     refine Kp (by omega) ?_
     exact ⟨aA,aB,aC,az,av,fun _=>rfl,aD,aH,aK,aP,ag,ai,aG,aM,aO,aN,aV,aU,aW,aX,aZ,a6,a4,a5,a8,hI⟩
    ·intro D aY dT cE cV cH c4 c5 c8 cY db c9 cZ dx di dj cO cL cM cK bT bU cS dq dk dp dr dn w_
     rintro ⟨aA,aB,aC,az,av,aE,aD,aH,aK,aP,ag,ai,aG,aM,aO,aN,aV,aU,aW,aX,aZ,a6,a4,a5,a8,hI⟩
     obtain rfl:=aE dT
     exact ⟨aA,aB,aC,az,av,aE,fun _=>rfl,aH,aK,aP,ag,ai,aG,aM,aO,aN,aV,aU,aW,aX,aZ,a6,a4,a5,a8,hI⟩
    ·intro D aY cJ cE cV cH c4 c5 c8 cY db c9 cZ dx di dj cO cL cM cK bT bU cS dq dk dp dr dn w_
     rintro ⟨aA,aB,aC,az,av,aE,aD,aH,aK,aP,ag,ai,aG,aM,aO,aN,aV,aU,aW,aX,aZ,a6,a4,a5,a8,hI⟩
     obtain rfl:=aD cJ
     refine af (c:=false) (b:=true) (by decide) ?_
     exact ⟨aA,aB,aC,az,av,aE,aD,fun _=>rfl,aK,aP,ag,ai,aG,aM,aO,aN,aV,aU,aW,aX,aZ,a6,a4,a5,a8,hI⟩
    ·intro D aY cJ cE cV cH c4 c5 c8 cY db c9 cZ dx di dj cO cL cM cK bT bU cS dq dk dp dr dn w_
     rintro ⟨aA,aB,aC,az,av,aE,aD,aH,aK,aP,ag,ai,aG,aM,aO,aN,aV,aU,aW,aX,aZ,a6,a4,a5,a8,hI⟩
     obtain rfl:=aD cJ
     refine af (c:=false) (b:=true) (by decide) ?_
     exact ⟨aA,aB,aC,az,av,aE,aD,aH,fun _=>rfl,aP,ag,ai,aG,aM,aO,aN,aV,aU,aW,aX,aZ,a6,a4,a5,a8,hI⟩
    ·intro D aY cJ cE cV cH c4 c5 c8 cY db c9 cZ dx di dj cO cL cM cK bT bU cS dq dk dp dr dn w_
     rintro ⟨aA,aB,aC,az,av,aE,aD,aH,aK,aP,ag,ai,aG,aM,aO,aN,aV,aU,aW,aX,aZ,a6,a4,a5,a8,hI⟩
     obtain rfl:=aD cJ
     refine af (c:=false) (b:=true) (by decide) ?_
     exact ⟨aA,aB,aC,az,av,aE,aD,aH,aK,fun _=>rfl,ag,ai,aG,aM,aO,aN,aV,aU,aW,aX,aZ,a6,a4,a5,a8,hI⟩
    ·intro D aY cJ cE cV cH c4 c5 c8 cY db c9 cZ dx di dj cO cL cM cK bT bU cS dq dk dp dr dn w_
     rintro ⟨aA,aB,aC,az,av,aE,aD,aH,aK,aP,ag,ai,aG,aM,aO,aN,aV,aU,aW,aX,aZ,a6,a4,a5,a8,hI⟩
     obtain rfl:=aD cJ
     refine af (c:=false) (b:=true) (by decide) ?_
     exact ⟨aA,aB,aC,az,av,aE,aD,aH,aK,aP,fun _=>rfl,ai,aG,aM,aO,aN,aV,aU,aW,aX,aZ,a6,a4,a5,a8,hI⟩
    ·intro D aY GQ lz lF cE cV cH c4 c5 c8 cY db c9 cZ dx di dj cO cL cM cK bT bU cS dq dk dp dr dn w_
     rintro ⟨aA,aB,aC,az,av,aE,aD,aH,aK,aP,ag,ai,aG,aM,aO,aN,aV,aU,aW,aX,aZ,a6,a4,a5,a8,hI⟩
     obtain rfl:=aP GQ
     obtain rfl:=ag lz
     obtain rfl:=aD lF
     refine af (c:=false) (b:=true) (by decide) ?_
     exact ⟨aA,aB,aC,az,av,aE,aD,aH,aK,aP,ag,fun _=>rfl,aG,aM,aO,aN,aV,aU,aW,aX,aZ,a6,a4,a5,a8,hI⟩
    ·intro D aY d6 gi FL Gv cE cV cH c4 c5 c8 cY db c9 cZ dx di dj cO cL cM cK bT bU cS dq dk dp dr dn w_
     rintro ⟨aA,aB,aC,az,av,aE,aD,aH,aK,aP,ag,ai,aG,aM,aO,aN,aV,aU,aW,aX,aZ,a6,a4,a5,a8,hI⟩
     obtain rfl:=aH d6
     obtain rfl:=aK gi
     obtain rfl:=ai FL
     obtain rfl:=aD Gv
     refine af (c:=false) (b:=true) (by decide) ?_
     exact ⟨aA,aB,aC,az,av,aE,aD,aH,aK,aP,ag,ai,fun _=>rfl,aM,aO,aN,aV,aU,aW,aX,aZ,a6,a4,a5,a8,hI⟩
    ·intro D aY cJ cE cV cH c4 c5 c8 cY db c9 cZ dx di dj cO cL cM cK bT bU cS dq dk dp dr dn w_
     rintro ⟨aA,aB,aC,az,av,aE,aD,aH,aK,aP,ag,ai,aG,aM,aO,aN,aV,aU,aW,aX,aZ,a6,a4,a5,a8,hI⟩
     obtain rfl:=aD cJ
     refine af (c:=false) (b:=true) (by decide) ?_
     exact ⟨aA,aB,aC,az,av,aE,aD,aH,aK,aP,ag,ai,aG,fun _=>rfl,aO,aN,aV,aU,aW,aX,aZ,a6,a4,a5,a8,hI⟩
    ·intro D aY cJ cE cV cH c4 c5 c8 cY db c9 cZ dx di dj cO cL cM cK bT bU cS dq dk dp dr dn w_
     rintro ⟨aA,aB,aC,az,av,aE,aD,aH,aK,aP,ag,ai,aG,aM,aO,aN,aV,aU,aW,aX,aZ,a6,a4,a5,a8,hI⟩
     obtain rfl:=aD cJ
     refine af (c:=false) (b:=true) (by decide) ?_
     exact ⟨aA,aB,aC,az,av,aE,aD,aH,aK,aP,ag,ai,aG,aM,fun _=>rfl,aN,aV,aU,aW,aX,aZ,a6,a4,a5,a8,hI⟩
    ·intro D aY g9 u3 lF cE cV cH c4 c5 c8 cY db c9 cZ dx di dj cO cL cM cK bT bU cS dq dk dp dr dn w_
     rintro ⟨aA,aB,aC,az,av,aE,aD,aH,aK,aP,ag,ai,aG,aM,aO,aN,aV,aU,aW,aX,aZ,a6,a4,a5,a8,hI⟩
     obtain rfl:=aM g9
     obtain rfl:=aO u3
     obtain rfl:=aD lF
     refine af (c:=false) (b:=true) (by decide) ?_
     exact ⟨aA,aB,aC,az,av,aE,aD,aH,aK,aP,ag,ai,aG,aM,aO,fun _=>rfl,aV,aU,aW,aX,aZ,a6,a4,a5,a8,hI⟩
    ·intro D aY zq f0 cE cV cH c4 c5 c8 cY db c9 cZ dx di dj cO cL cM cK bT bU cS dq dk dp dr dn w_
     rintro ⟨aA,aB,aC,az,av,aE,aD,aH,aK,aP,ag,ai,aG,aM,aO,aN,aV,aU,aW,aX,aZ,a6,a4,a5,a8,hI⟩
     obtain rfl:=aN zq
     obtain rfl:=aD f0
     refine af (c:=false) (b:=true) (by decide) ?_
     exact ⟨aA,aB,aC,az,av,aE,aD,aH,aK,aP,ag,ai,aG,aM,aO,aN,fun _=>rfl,aU,aW,aX,aZ,a6,a4,a5,a8,hI⟩
    ·intro D aY ku vY lF cE cV cH c4 c5 c8 cY db c9 cZ dx di dj cO cL cM cK bT bU cS dq dk dp dr dn w_
     rintro ⟨aA,aB,aC,az,av,aE,aD,aH,aK,aP,ag,ai,aG,aM,aO,aN,aV,aU,aW,aX,aZ,a6,a4,a5,a8,hI⟩
     obtain rfl:=aG ku
     obtain rfl:=aV vY
     obtain rfl:=aD lF
     refine af (c:=false) (b:=true) (by decide) ?_
     exact ⟨aA,aB,aC,az,av,aE,aD,aH,aK,aP,ag,ai,aG,aM,aO,aN,aV,fun _=>rfl,aW,aX,aZ,a6,a4,a5,a8,hI⟩
    ·intro D aY cJ Ff cE cV cH c4 c5 c8 cY db c9 cZ dx di dj cO cL cM cK bT bU cS dq dk dp dr dn w_
     rintro ⟨aA,aB,aC,az,av,aE,aD,aH,aK,aP,ag,ai,aG,aM,aO,aN,aV,aU,aW,aX,aZ,a6,a4,a5,a8,hI⟩
     obtain rfl:=aD cJ
     obtain rfl:=aU Ff
     refine aj ?_
     exact ⟨aA,aB,aC,az,av,aE,aD,aH,aK,aP,ag,ai,aG,aM,aO,aN,aV,aU,fun _=>rfl,aX,aZ,a6,a4,a5,a8,hI⟩
    ·intro D aY s4 f0 cE cV cH c4 c5 c8 cY db c9 cZ dx di dj cO cL cM cK bT bU cS dq dk dp dr dn w_
     rintro ⟨aA,aB,aC,az,av,aE,aD,aH,aK,aP,ag,ai,aG,aM,aO,aN,aV,aU,aW,aX,aZ,a6,a4,a5,a8,hI⟩
     obtain rfl:=aW s4
     exact ⟨aA,aB,aC,az,av,aE,aD,aH,aK,aP,ag,ai,aG,aM,aO,aN,aV,aU,aW,fun _=>rfl,aZ,a6,a4,a5,a8,hI⟩
    ·intro D aY gD cE cV cH c4 c5 c8 cY db c9 cZ dx di dj cO cL cM cK bT bU cS dq dk dp dr dn w_
     rintro ⟨aA,aB,aC,az,av,aE,aD,aH,aK,aP,ag,ai,aG,aM,aO,aN,aV,aU,aW,aX,aZ,a6,a4,a5,a8,hI⟩
     obtain rfl:=aX gD
     refine af (c:=false) (b:=true) (by decide) ?_
     exact ⟨aA,aB,aC,az,av,aE,aD,aH,aK,aP,ag,ai,aG,aM,aO,aN,aV,aU,aW,aX,fun _=>rfl,a6,a4,a5,a8,hI⟩
    ·intro D aY gD cE cV cH c4 c5 c8 cY db c9 cZ dx di dj cO cL cM cK bT bU cS dq dk dp dr dn w_
     rintro ⟨aA,aB,aC,az,av,aE,aD,aH,aK,aP,ag,ai,aG,aM,aO,aN,aV,aU,aW,aX,aZ,a6,a4,a5,a8,hI⟩
     obtain rfl:=aX gD
     refine af (c:=false) (b:=true) (by decide) ?_
     exact ⟨aA,aB,aC,az,av,aE,aD,aH,aK,aP,ag,ai,aG,aM,aO,aN,aV,aU,aW,aX,aZ,fun _=>rfl,a4,a5,a8,hI⟩
    ·intro D aY yU EM cE cV cH c4 c5 c8 cY db c9 cZ dx di dj cO cL cM cK bT bU cS dq dk dp dr dn w_
     rintro ⟨aA,aB,aC,az,av,aE,aD,aH,aK,aP,ag,ai,aG,aM,aO,aN,aV,aU,aW,aX,aZ,a6,a4,a5,a8,hI⟩
     obtain rfl:=a6 yU
     obtain rfl:=aX EM
     refine af (c:=false) (b:=true) (by decide) ?_
     exact ⟨aA,aB,aC,az,av,aE,aD,aH,aK,aP,ag,ai,aG,aM,aO,aN,aV,aU,aW,aX,aZ,a6,fun _=>rfl,a5,a8,hI⟩
    ·intro D aY zl ET E9 cE cV cH c4 c5 c8 cY db c9 cZ dx di dj cO cL cM cK bT bU cS dq dk dp dr dn w_
     rintro ⟨aA,aB,aC,az,av,aE,aD,aH,aK,aP,ag,ai,aG,aM,aO,aN,aV,aU,aW,aX,aZ,a6,a4,a5,a8,hI⟩
     obtain rfl:=aZ zl
     obtain rfl:=a4 ET
     obtain rfl:=aX E9
     refine af (c:=false) (b:=true) (by decide) ?_
     exact ⟨aA,aB,aC,az,av,aE,aD,aH,aK,aP,ag,ai,aG,aM,aO,aN,aV,aU,aW,aX,aZ,a6,a4,fun _=>rfl,a8,hI⟩
    ·intro D aY gD Gt cE cV cH c4 c5 c8 cY db c9 cZ dx di dj cO cL cM cK bT bU cS dq dk dp dr dn w_
     rintro ⟨aA,aB,aC,az,av,aE,aD,aH,aK,aP,ag,ai,aG,aM,aO,aN,aV,aU,aW,aX,aZ,a6,a4,a5,a8,hI⟩
     obtain rfl:=aX gD
     obtain rfl:=a5 Gt
     refine aj ?_
     exact ⟨aA,aB,aC,az,av,aE,aD,aH,aK,aP,ag,ai,aG,aM,aO,aN,aV,aU,aW,aX,aZ,a6,a4,a5,fun _=>rfl,hI⟩
    intro D C5 Dm CB D3 Ed CU zL za zG mQ m0 nh iO fk fw iK gI fK fL fH fC fB fE fM fJ cE cV cH c4 c5 c8 cY db c9 cZ dx di dj cO cL cM cK bT bU cS dq dk dp dr dn w_
    rintro ⟨aA,aB,aC,az,av,aE,aD,aH,aK,aP,ag,ai,aG,aM,aO,aN,aV,aU,aW,aX,aZ,a6,a4,a5,a8,hI⟩
    obtain rfl:=a8 C5
    obtain rfl:=a5 Dm
    obtain rfl:=a4 CB
    obtain rfl:=a6 D3
    obtain rfl:=aZ Ed
    obtain rfl:=aX CU
    obtain rfl:=aW zL
    obtain rfl:=aU za
    obtain rfl:=aV zG
    obtain rfl:=aN mQ
    obtain rfl:=aO m0
    obtain rfl:=aM nh
    obtain rfl:=aG iO
    obtain rfl:=ai fk
    obtain rfl:=ag fw
    obtain rfl:=aP iK
    obtain rfl:=aK gI
    obtain rfl:=aH fK
    obtain rfl:=aD fL
    obtain rfl:=aE fH
    obtain rfl:=av fC
    obtain rfl:=az fB
    obtain rfl:=aC fE
    obtain rfl:=aB fM
    obtain rfl:=aA fJ
    clear aA aB aC az av aE aD aH aK aP ag ai aG aM aO aN aV aU aW aX aZ a6 a4 a5 a8
    refine ba (fun hb=>by cases hb) (fun _=>?_)
    refine ⟨best,rfl,hbl,?_,hI⟩
    rw [if_neg] at hbest
    ·exact hbest
    ·rintro ⟨h1,_⟩
     rw [decide_eq_true_eq] at h1
     exact hlen h1
  intro t7 _ _ _ _ _ _ _ _ _ _ _ _ _ _ _ _ _ _ _ _ _ _ _ _ _ _ _ _ _ _ _ _ _ _ _ w'
  rintro ⟨best',rfl,hbl',hb',hI⟩
  refine bN (by omega) ?_
  exact ⟨⟨j+1,best',hj,rfl,rfl,hbl',hb',hI⟩,by simp [intOf]; omega⟩
 ·have:j=signs.length:=by omega
  subst this
  rw [List.drop_length,hH] at hbest
  rw [<- hbest] at hnm
  refine cN ?_
  refine bl (fun hb=>?_) (fun hb=>?_)
  ·have:best=[]:=by rw [<- BK best,hb]
   exact lD hI hle (by rw [hnm,if_pos this]; rfl)
  ·have:¬ best=[]:=fun h=>hb (by rw [h])
   refine fP bj ?_
   refine bN (by omega) ?_
   exact lD hI hle (by rw [hnm,if_neg this]; rfl)
end
theorem uk (s:Bs) (i:Nat):∀ (l:List ByteArray) (b:Bs),(∀ x∈l,x.size<=3)->b.length<=3->i+b.length<=s.length->i+(hH s i l b).length<=s.length/\(hH s i l b).length<=3
 | [],b,_,h2,h3=>⟨h3,h2⟩
 | x::l,b,h1,h2,h3=>by
  rw [hH]
  have hx:(bs x).length=x.size:=Array.length_toList
  split
  ·rename_i h
   exact uk s i l _ (fun y hy=>h1 y (List.mem_cons_of_mem _ hy)) (by rw [hx]; exact h1 x (List.mem_cons_self ..)) (by rw [hx]; exact of_decide_eq_true h.1)
  ·exact uk s i l _ (fun y hy=>h1 y (List.mem_cons_of_mem _ hy)) h2 h3
theorem Ja (s:Bs):∀ (n e:Nat),e<=wD s n e/\wD s n e<=e+n
 | 0,e=>by simp [wD]
 | n+1,e=>by
  rw [wD]
  split
  ·have:=Ja s n (e+1); omega
  ·omega
theorem sP {s:Bs} {i:Nat} {n:Bs} {e:Nat} (hi:i<s.length) (h:s3 s i=some (n,e)):i<e/\e<=s.length/\n.length<=6/\n≠[]:=by
 have hl:=Ja s (s.length - i) i
 have hb:=uk s i signs [] EV (by simp) (by simpa using Nat.le_of_lt hi)
 unfold s3 at h
 simp only [] at h
 split at h
 ·cases h
 ·split at h
  ·simp only [Option.some.injEq,Prod.mk.injEq] at h
   obtain ⟨rfl,rfl⟩:=h
   rename_i h1 h2
   have hc:=Cz (s:=s) (a:=i) (b:=wD s (s.length - i) i) (by omega)
   refine ⟨h2,by omega,by omega,fun h=>?_⟩
   rw [h] at hc
   simp at hc
   omega
  ·split at h
   ·cases h
   ·simp only [Option.some.injEq,Prod.mk.injEq] at h
    obtain ⟨rfl,rfl⟩:=h
    rename_i h3
    have:0<(hH s i signs []).length:=by
     cases he:hH s i signs [] with
     | nil=>exact absurd he h3
     | cons a l=>simp
    exact ⟨by omega,by omega,by omega,h3⟩
def opV (o:Option (Bs × Nat)) (i:Nat):Value:=match o with
 | none=>.tuple #[.string ⟨#[]⟩,.int .i64 (i:Int)]
 | some (n,e)=>.tuple #[.string (st n),.int .i64 (e:Int)]
theorem Kt {s:Bs} {i:Nat} {n:Bs} {e:Nat} (h:opF s i=some (n,e)):i<e/\e<=s.length/\n.length<=6/\n≠[]:=by
 unfold opF at h
 obtain ⟨fr,hfr⟩:∃ fr,fr=if sgn s i 32=true then i+1 else i:=⟨_,rfl⟩
 simp only [<- hfr] at h
 have hfi:i<=fr:=by rw [hfr]; split <;> omega
 split at h
 ·cases h
 rename_i hlt
 split at h
 ·cases h
 rename_i nm nx hnm
 obtain ⟨h1,h2,h3,h4⟩:=sP (by omega) hnm
 split at h
 ·cases h
 rename_i hc
 simp only [not_or,not_and,Bool.not_eq_false] at hc
 simp only [Option.some.injEq,Prod.mk.injEq] at h
 obtain ⟨rfl,rfl⟩:=h
 refine ⟨by split <;> omega,?_,h3,h4⟩
 split
 ·rename_i hw
  have:=gU (hc.2.2 hw)
  omega
 ·exact h2
section
attribute [local irreducible] Run CondV ah be
theorem HE {s:Bs} {i:Nat} (hs:s.length<=100000) (hi:i<=s.length) (S:aF):Pure Tryz.prog Ko [.string (st s),.int .i64 (i:Int)] S (opV (opF s i) i):=by
 intro w hI
 refine Dr ?_
 unfold Cm
 obtain ⟨fr,hfr⟩:∃ fr,fr=if sgn s i 32=true then i+1 else i:=⟨_,rfl⟩
 have hfi:i<=fr/\fr<=i+1:=by rw [hfr]; split <;> omega
 obtain ⟨r,hr⟩:∃ r,r=opF s i:=⟨_,rfl⟩
 rw [<- hr]
 unfold opF at hr
 simp only [<- hfr] at hr
 refine ⟨fun t w'=>t=.int .i64 (fr:Int)/\Inv w [] [] S w',?_,?_⟩
 ·refine Run.callPure dz dA hI (dd s i 32 S) fun w' hI=>?_
  refine ba (fun hb=>?_) (fun hb=>?_)
  ·refine bN (by omega) ?_
   rw [if_pos hb] at hfr
   exact ⟨by rw [hfr]; congr 1,hI⟩
  ·rw [if_neg (by rw [hb]; decide)] at hfr
   exact ⟨by rw [hfr],hI⟩
 intro t6 _ _ _ _ _ w'
 rintro ⟨rfl,hI⟩
 refine fP bj ?_
 refine mw ?_
 refine bl (fun hb=>?_) (fun hb=>?_)
 ·rw [if_pos (by omega)] at hr
  exact done hI (by rw [hr]; rfl)
 rw [if_neg (by omega)] at hr
 refine Run.callPure vJ vC hI (rm (by omega) hs S) fun w' hI=>?_
 cases hnm:s3 s fr with
 | none=>
  rw [hnm] at hr
  simp only [] at hr
  simp only [Jg]
  refine bd rfl ?_
  refine bd rfl ?_
  refine ⟨fun t w'=>t=.bool true/\Inv w [] [] S w',?_,?_⟩
  ·refine yG (by omega) ?_
   repeat (first|refine ad ?_|refine af (by decide) ?_|refine ac ?_|refine al ?_|refine aj ?_)
   exact ⟨rfl,hI⟩
  intro t33 _ _ _ _ _ _ w'
  rintro ⟨rfl,hI⟩
  exact ba (fun _=>done hI (by rw [hr]; rfl)) (fun hb=>by cases hb)
 | some q=>
  obtain ⟨nm,nx⟩:=q
  rw [hnm] at hr
  simp only [] at hr
  obtain ⟨h1,h2,h3,h4⟩:=sP (by omega) hnm
  simp only [Jg]
  refine bd (v:=.string (st nm)) rfl ?_
  refine bd (v:=.int .i64 (nx:Int)) rfl ?_
  refine ⟨fun t w'=>t=.bool (decide (dg (st nm)=0))/\Inv w [] [] S w',?_,?_⟩
  ·refine fi (by omega) ?_
   repeat (first|refine ad ?_|refine af (by decide) ?_|refine ac ?_|refine al ?_|refine aj ?_)
   refine Run.callPure fO fI hI (ex _ S) fun w' hI=>?_
   refine bR ?_
   repeat (first|refine ad ?_|refine af (by decide) ?_|refine ac ?_|refine al ?_|refine aj ?_)
   exact ⟨rfl,hI⟩
  intro t33 _ _ _ _ _ _ w'
  rintro ⟨rfl,hI⟩
  refine bl (fun hb=>?_) (fun hb=>?_)
  ·rw [if_pos (.inl hb)] at hr
   exact done hI (by rw [hr]; rfl)
  obtain ⟨word,hword⟩:∃ word,word=(decide (nm=[105,115]) || decide (nm=[109,111,100])):=⟨_,rfl⟩
  rw [<- hword] at hr
  refine ⟨fun t w'=>t=.bool word/\Inv w [] [] S w',?_,?_⟩
  ·refine xS (b:=[105,115]) ?_
   cases h5:decide (nm=[105,115])
   ·repeat (first|refine ad ?_|refine af (by decide) ?_|refine ac ?_|refine al ?_|refine aj ?_)
    refine xS (b:=[109,111,100]) ?_
    repeat (first|refine ad ?_|refine af (by decide) ?_|refine ac ?_|refine al ?_|refine aj ?_)
    exact ⟨by rw [hword,h5,Bool.false_or],hI⟩
   ·repeat (first|refine ad ?_|refine af (by decide) ?_|refine ac ?_|refine al ?_|refine aj ?_)
    exact ⟨by rw [hword,h5,Bool.true_or],hI⟩
  intro t9 _ _ _ _ _ _ w'
  rintro ⟨rfl,hI⟩
  refine ⟨fun t w'=>t=.bool (decide (word≠decide (i<fr)) || (word && !sgn s nx 32))/\Inv w [] [] S w',?_,?_⟩
  ·refine eh ?_
   refine Lv xM ?_
   have e1:decide ((i:Int)<(fr:Int))=decide (i<fr):=by rw [decide_eq_decide]; omega
   rw [e1]
   cases h6:decide (i<fr) <;> cases word
   ·repeat (first|refine ad ?_|refine af (by decide) ?_|refine ac ?_|refine al ?_|refine aj ?_)
    exact ⟨by rfl,hI⟩
   ·repeat (first|refine ad ?_|refine af (by decide) ?_|refine ac ?_|refine al ?_|refine aj ?_)
    exact ⟨by rfl,hI⟩
   ·repeat (first|refine ad ?_|refine af (by decide) ?_|refine ac ?_|refine al ?_|refine aj ?_)
    exact ⟨by rfl,hI⟩
   ·repeat (first|refine ad ?_|refine af (by decide) ?_|refine ac ?_|refine al ?_|refine aj ?_)
    refine Run.callPure dz dA hI (dd s nx 32 S) fun w' hI=>?_
    refine dh ?_
    repeat (first|refine ad ?_|refine af (by decide) ?_|refine ac ?_|refine al ?_|refine aj ?_)
    exact ⟨by simp,hI⟩
  intro t54 _ _ _ _ _ _ _ _ _ _ _ _ _ w'
  rintro ⟨rfl,hI⟩
  refine ba (fun hb'=>?_) (fun hb'=>?_)
  ·rw [if_pos] at hr
   ·exact done hI (by rw [hr]; rfl)
   ·rw [Bool.or_eq_true,decide_eq_true_eq,Bool.and_eq_true,Bool.not_eq_true'] at hb'
    exact .inr hb'
  ·rw [if_neg] at hr
   ·refine ⟨fun t w'=>t=.int .i64 ((if word=true then nx+1 else nx:Nat):Int)/\Inv w [] [] S w',?_,?_⟩
    ·refine ba (fun hw=>?_) (fun hw=>?_)
     ·refine bN (by omega) ?_
      exact ⟨by rw [if_pos hw]; congr 1,hI⟩
     ·exact ⟨by rw [if_neg (by rw [hw]; decide)],hI⟩
    intro t8 _ _ _ w'
    rintro ⟨rfl,hI⟩
    exact done hI (by rw [hr]; rfl)
   ·rw [Bool.or_eq_false_iff,decide_eq_false_iff_not] at hb'
    rintro (h|h|⟨h,h'⟩)
    ·exact hb h
    ·exact hb'.1 h
    ·rw [h,h'] at hb'
     simp at hb'
end
end Go.Proofs.YtemmhhdnlbmicaaGreat

/- Publishing what a call owns; what is published since. -/
namespace Go.Proofs.YtemmhhdnlbmicaaGreat
open Go Go.RowKit
/- a tree of one's own, published -/
theorem Inv.pubExt {w0 w:World} {X:List Nat} {A:List Item} {S:aF} {L:bE} (h:Inv w0 X (A++bO L) S w) :
  ∃ S',Inv w0 X A S' w/\Ext w0.heap.size X S S'/\Ins S' L:=by
 obtain ⟨S',h1,h2,h3,h4⟩:=h.publishAll L
 refine ⟨S',h1,⟨h2,fun b o hb=>?_⟩,h3⟩
 rcases h4 b o hb with h5|h5
 ·exact .inl h5
 ·right
  exact h.new b (by rw [cD]; exact List.mem_append_right _ h5)
theorem Inv.pub1 {w0 w:World} {X:List Nat} {A:List Item} {S:aF} {b:Nat} {o:Obj} (h:Inv w0 X (A++[.blk b o]) S w) :
  ∃ S',Inv w0 X A S' w/\Ext w0.heap.size X S S'/\S' b=some o:=by
 obtain ⟨S',h1,h2,h3⟩:=Inv.pubExt (A:=A) (L:=[(b,o)]) h
 exact ⟨S',h1,h2,h3 _ (List.mem_singleton.2 rfl)⟩
theorem Rows.monoR {α:Type} {k:Nat} {R R':List Value->α->Prop} {css:List (List Value)} {ys:List α} (h:Rows k R css ys) (hR:∀ cs y,R cs y->R' cs y):Rows k R' css ys:=⟨h.hc,h.hk,fun i h1 h2=>hR _ _ (h.hR i h1 h2)⟩
theorem Rows.one {α:Type} {k:Nat} {R:List Value->α->Prop} {cs:List Value} {y:α} (hR:R cs y) (hl:cs.length=k):Rows k R [cs] [y]:=by
 have:=(Rows.nil k R).snoc hR hl
 exact this
section
variable {P:Program} {w w0:World} {X:List Nat} {L:List Item} {S:aF} {K:Value->World->Prop}
theorem Run.call0E {f:FuncId} {fn:Func} {args:List Value} {Post:Value->List Item->aF->Prop}
  (hf:P.funcs[f]?=some fn) (hn:(fn.name == "runtime.NumGoroutine" || fn.body.isNone)=false) (h:Inv w0 X L S w) (hc:Tri P f args [] S Post)
  (hk:∀ v I' S' w',Post v I' S'->Ext w0.heap.size X S S'->Inv w0 X (L++I') S' w'->K v w'):Run P (aJ (.func (.func f) #[] #[]) args) w K:=by
 refine Run.callP hf hn ((hc w h.nil.begin).mono ?_)
 rintro e w' ⟨v,I',S',rfl,hI,hE,hP⟩
 refine hk v I' S' w' hP ⟨hE.1,fun b o hb=>?_⟩ (Inv.step (A:=L) (B:=[]) (by simpa using h) hI hE.2)
 rcases hE.2 b o hb with h1|h1|h1
 ·exact .inl h1
 ·simp [bX] at h1
 ·exact .inr (.inr (Nat.le_trans h.size h1))
end
theorem Ext.trans {n:Nat} {Y:List Nat} {S S' S'':aF} (h:Ext n Y S S') (h':Ext n Y S' S''):Ext n Y S S'':=by
 refine ⟨h.1.trans h'.1,fun b o hb=>?_⟩
 rcases h'.2 b o hb with h1|h1
 ·exact h.2 b o h1
 ·exact .inr h1
section
variable {P:Program} {w w0:World} {X:List Nat} {A I:List Item} {S:aF} {K:Value->World->Prop}
theorem K2 {f:FuncId} {args:List Value} {Post:Value->List Item->aF->Prop} (h:Inv w0 X (A++I) S w) (hc:Tri P f args I S Post) :
  Calls P f args.toArray w fun e w'=>∃ v I' S',e=.returned v/\Inv w0 X (A++I') S' w'/\Ext w0.heap.size X S S'/\Post v I' S':=by
 refine (hc w (h.sub (List.sublist_append_right A I)).begin).mono ?_
 rintro e w' ⟨v,I',S',rfl,hI,hE,hP⟩
 refine ⟨v,I',S',rfl,Inv.step h hI hE.2,⟨hE.1,fun b o hb=>?_⟩,hP⟩
 rcases hE.2 b o hb with h1|h1|h1
 ·exact .inl h1
 ·exact .inr (h.new b (by rw [cD]; exact List.mem_append_right _ h1))
 ·exact .inr (.inr (Nat.le_trans h.size h1))
theorem Run.callE {f:FuncId} {fn:Func} {args:List Value} {Post:Value->List Item->aF->Prop}
  (hf:P.funcs[f]?=some fn) (hn:(fn.name == "runtime.NumGoroutine" || fn.body.isNone)=false) (h:Inv w0 X (A++I) S w) (hc:Tri P f args I S Post)
  (hk:∀ v I' S' w',Post v I' S'->Ext w0.heap.size X S S'->Inv w0 X (A++I') S' w'->K v w'):Run P (aJ (.func (.func f) #[] #[]) args) w K:=by
 refine Run.callP hf hn ((K2 h hc).mono ?_)
 rintro e w' ⟨v,I',S',rfl,hI,hE,hP⟩
 exact hk v I' S' w' hP hE hI
theorem Run.callVE {f:FuncId} {fn:Func} {cap args:List Value} {Post:Value->List Item->aF->Prop}
  (hf:P.funcs[f]?=some fn) (hn:(fn.name == "runtime.NumGoroutine" || fn.body.isNone)=false) (h:Inv w0 X (A++I) S w) (hc:Tri P f (args++cap) I S Post)
  (hk:∀ v I' S' w',Post v I' S'->Ext w0.heap.size X S S'->Inv w0 X (A++I') S' w'->K v w'):Run P (aJ (fv f cap) args) w K:=by
 unfold Run
 rw [BS hf hn]
 refine (K2 h hc).mono ?_
 rintro e w' ⟨v,I',S',rfl,hI,hE,hP⟩
 exact hk v I' S' w' hP hE hI
end
theorem Inv.lendExt {w0 w:World} {X:List Nat} {A:List Item} {S:aF} {v:Value} {e:TypeId} {k:Nat} {css:List (List Value)} (h:Inv w0 X (A++[bh v e k css]) S w) :
  ∃ S',Ext w0.heap.size X S S'/\RowRd S' v e k css.length css.flatten/\Inv w0 X A S' w:=by
 obtain ⟨hl,ho⟩:=h.openRow
 rcases ho with ⟨rfl,h0⟩|⟨g,cap,cur,rfl,hnc,hcm,hcs,ht,hI⟩
 ·exact ⟨S,Ext.refl _ _ _,⟨hl,.inl ⟨rfl,h0⟩⟩,h.sub (List.sublist_append_left _ _)⟩
 ·obtain ⟨S',h1,h2,h3⟩:=Inv.pub1 (A:=A) hI
  exact ⟨S',h2,⟨hl,.inr ⟨g,cap,cur,rfl,h3,hnc,hcm,hcs,ht⟩⟩,h1⟩

end Go.Proofs.YtemmhhdnlbmicaaGreat
