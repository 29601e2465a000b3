/- Bytes, numbers, names and operators in texts: spec.l1Sign and its kin. (printed by gen_byt.py) -/
import Derived.Test.YtnmnddpdikghhaaGreatZr2
import Derived.Test.YtnmnddpdikghhaaGreatZrF
import Derived.Test.YtnmnddpdikghhaaGreatZr0
namespace Go.Proofs.YtnmnddpdikghhaaGreat
open Go Go.RowKit
theorem jR {s:Bs} {i:Nat} (h:i<s.length) (c:Nat):sgn s i c=decide (s[i].toNat=c):=by simp [sgn,List.getElem?_eq_getElem h]
theorem Kl {s:Bs} {i:Nat} (h:¬ i<s.length) (c:Nat):sgn s i c=false:=by simp [sgn,List.getElem?_eq_none (Nat.le_of_not_lt h)]
theorem lK {s:Bs} {i:Nat} (h:i<s.length) (a b:Nat):btw s i a b=(decide (a<=s[i].toNat) && decide (s[i].toNat<=b)):=by simp [btw,List.getElem?_eq_getElem h]
theorem Hp {s:Bs} {i:Nat} (h:¬ i<s.length) (a b:Nat):btw s i a b=false:=by simp [btw,List.getElem?_eq_none (Nat.le_of_not_lt h)]
theorem zn {s:Bs} {i a b:Nat} (h:btw s i a b=true):i<s.length:=by
 rcases Nat.lt_or_ge i s.length with h1|h1
 ·exact h1
 ·rw [Hp (by omega)] at h; cases h
theorem ic {s:Bs} {i c:Nat} (h:sgn s i c=true):i<s.length:=by
 rcases Nat.lt_or_ge i s.length with h1|h1
 ·exact h1
 ·rw [Kl (by omega)] at h; cases h
section
attribute [local irreducible] Run CondV ai a4
theorem cX (s:Bs) (i c:Nat) (S:ay):Pure Tryz.prog F7 [.string (st s),.int .i64 (i:Int),.int .u8 (c:Int)] S (.bool (sgn s i c)):=by
 intro w hI
 refine xY ?_
 unfold uT;dsimp only
 refine lJ (by omega) ?_
 repeat (first|refine ae ?_|refine ah (by decide) ?_|refine ad ?_|refine al ?_|refine aj ?_)
 refine fE bk ?_
 by_cases h:i<s.length
 ·refine yE (by omega) ?_
  repeat (first|refine ae ?_|refine ah (by decide) ?_|refine ad ?_|refine al ?_|refine aj ?_)
  refine eH bk h ?_
  refine bO ?_
  repeat (first|refine ae ?_|refine ah (by decide) ?_|refine ad ?_|refine al ?_|refine aj ?_)
  refine done hI ?_
  rw [jR h]
  congr 1
  rw [decide_eq_decide]
  omega
 ·refine eU (by omega) ?_
  repeat (first|refine ae ?_|refine ah (by decide) ?_|refine ad ?_|refine al ?_|refine aj ?_)
  exact done hI (by rw [Kl h])
theorem gR (s:Bs) (i:Nat) (S:ay):Pure Tryz.prog D7 [.string (st s),.int .i64 (i:Int)] S (.bool (dig s i)):=by
 intro w hI
 refine wI ?_
 unfold rM;dsimp only
 refine lJ (by omega) ?_
 repeat (first|refine ae ?_|refine ah (by decide) ?_|refine ad ?_|refine al ?_|refine aj ?_)
 refine fE bk ?_
 by_cases h:i<s.length
 ·refine yE (by omega) ?_
  repeat (first|refine ae ?_|refine ah (by decide) ?_|refine ad ?_|refine al ?_|refine aj ?_)
  refine eH bk h ?_
  rw [dig,lK h]
  by_cases h2:48<=s[i].toNat
  ·refine lJ (by omega) ?_
   repeat (first|refine ae ?_|refine ah (by decide) ?_|refine ad ?_|refine al ?_|refine aj ?_)
   refine eH bk h ?_
   refine gO ?_
   repeat (first|refine ae ?_|refine ah (by decide) ?_|refine ad ?_|refine al ?_|refine aj ?_)
   refine done hI ?_
   rw [decide_eq_true h2,Bool.true_and]
   congr 1
   rw [decide_eq_decide]
   omega
  ·refine uH (by omega) ?_
   repeat (first|refine ae ?_|refine ah (by decide) ?_|refine ad ?_|refine al ?_|refine aj ?_)
   exact done hI (by rw [decide_eq_false h2,Bool.false_and])
 ·refine eU (by omega) ?_
  repeat (first|refine ae ?_|refine ah (by decide) ?_|refine ad ?_|refine al ?_|refine aj ?_)
  exact done hI (by rw [dig,Hp h])
theorem my (s:Bs) (i:Nat) (S:ay):Pure Tryz.prog Dv [.string (st s),.int .i64 (i:Int)] S (.bool (sml s i)):=by
 intro w hI
 refine ww ?_
 unfold ry;dsimp only
 refine lJ (by omega) ?_
 repeat (first|refine ae ?_|refine ah (by decide) ?_|refine ad ?_|refine al ?_|refine aj ?_)
 refine fE bk ?_
 by_cases h:i<s.length
 ·refine yE (by omega) ?_
  repeat (first|refine ae ?_|refine ah (by decide) ?_|refine ad ?_|refine al ?_|refine aj ?_)
  refine eH bk h ?_
  rw [sml,lK h]
  by_cases h2:97<=s[i].toNat
  ·refine lJ (by omega) ?_
   repeat (first|refine ae ?_|refine ah (by decide) ?_|refine ad ?_|refine al ?_|refine aj ?_)
   refine eH bk h ?_
   refine gO ?_
   repeat (first|refine ae ?_|refine ah (by decide) ?_|refine ad ?_|refine al ?_|refine aj ?_)
   refine done hI ?_
   rw [decide_eq_true h2,Bool.true_and]
   congr 1
   rw [decide_eq_decide]
   omega
  ·refine uH (by omega) ?_
   repeat (first|refine ae ?_|refine ah (by decide) ?_|refine ad ?_|refine al ?_|refine aj ?_)
   exact done hI (by rw [decide_eq_false h2,Bool.false_and])
 ·refine eU (by omega) ?_
  repeat (first|refine ae ?_|refine ah (by decide) ?_|refine ad ?_|refine al ?_|refine aj ?_)
  exact done hI (by rw [sml,Hp h])
end
theorem H7 {s:Bs} {i:Nat} (h:i<s.length):dig s i=true↔48<=s[i].toNat/\s[i].toNat<=57:=by
 rw [dig,lK h,Bool.and_eq_true,decide_eq_true_eq,decide_eq_true_eq]
theorem Ik {d:Bs} {j:Nat} (h:j<d.length) (m:Nat):AU (d.drop j) m=AU (d.drop (j+1)) (m * 10+(d[j].toNat - 48)):=by
 rw [List.drop_eq_getElem_cons h,AU]
section
attribute [local irreducible] Run CondV ai a4
theorem Di (d:Bs) (hd:∀ i,i<d.length->dig d i=true) (h0:0<d.length) (h4:d.length<=4) (hz:¬ (sgn d 0 48=true/\1<d.length)) (S:ay) :
  Pure Tryz.prog Hc [.string (st d)] S (.tuple #[.int .i64 ((AU d 0:Nat):Int),.bool true]):=by
 intro w hI
 refine yF ?_
 unfold u4;dsimp only
 have hd0:=(H7 h0).1 (hd 0 h0)
 refine ⟨fun t w'=>t=.bool false/\Inv w [] [] S w',?_,?_⟩
 ·refine fE bk ?_
  refine G6 (by omega) ?_
  repeat (first|refine ae ?_|refine ah (by decide) ?_|refine ad ?_|refine al ?_|refine aj ?_)
  refine eH (i:=0) bk h0 ?_
  refine eK (by omega) ?_
  repeat (first|refine ae ?_|refine ah (by decide) ?_|refine ad ?_|refine al ?_|refine aj ?_)
  exact ⟨rfl,hI⟩
 intro t4 _ _ _ _ _ _ _ _ w'
 rintro ⟨rfl,hI⟩
 refine ⟨fun t w'=>t=.string (st d)/\Inv w [] [] S w',?_,?_⟩
 ·exact a7 (fun hb=>by cases hb) (fun _=>⟨rfl,hI⟩)
 intro t0 _ _ _ w'
 rintro ⟨rfl,hI⟩
 refine ⟨fun t w'=>t=.bool false/\Inv w [] [] S w',?_,?_⟩
 ·refine fE bk ?_
  refine eK (by omega) ?_
  repeat (first|refine ae ?_|refine ah (by decide) ?_|refine ad ?_|refine al ?_|refine aj ?_)
  refine fE bk ?_
  refine jH (by omega) ?_
  repeat (first|refine ae ?_|refine ah (by decide) ?_|refine ad ?_|refine al ?_|refine aj ?_)
  refine eH (i:=0) bk h0 ?_
  by_cases hs:d[0].toNat=48
  ·refine fZ (by omega) ?_
   repeat (first|refine ae ?_|refine ah (by decide) ?_|refine ad ?_|refine al ?_|refine aj ?_)
   refine fE bk ?_
   refine jH (by
    have:¬ 1<d.length:=fun h=>hz ⟨by rw [jR h0,hs]; rfl,h⟩
    omega) ?_
   repeat (first|refine ae ?_|refine ah (by decide) ?_|refine ad ?_|refine al ?_|refine aj ?_)
   exact ⟨rfl,hI⟩
  ·refine eK (by omega) ?_
   repeat (first|refine ae ?_|refine ah (by decide) ?_|refine ad ?_|refine al ?_|refine aj ?_)
   exact ⟨rfl,hI⟩
 intro t38 _ _ _ _ _ _ _ _ _ _ _ _ _ _ _ _ _ _ _ _ w'
 rintro ⟨rfl,hI⟩
 refine a7 (fun hb=>by cases hb) (fun _=>?_)
 refine ⟨fun i n w'=>∃ j m:Nat,j<=d.length/\i=.int .i64 j/\n=.int .i64 m/\m<10 ^ j/\AU (d.drop j) m=AU d 0/\Inv w [] [] S w',fun i _ _=>d.length - (intOf i).toNat,
  ⟨0,0,Nat.zero_le _,rfl,rfl,by simp,rfl,hI⟩,?_⟩
 intro t6 _ _ t5 _ _ _ _ _ _ _ _ _ _ _ _ _ _ _ _ _ _ _ _ _ _ _ _ w'
 rintro ⟨j,m,hj,rfl,rfl,hm,hval,hI⟩
 have hp:10 ^ j<=10 ^ 4:=Nat.pow_le_pow_right (by omega) (by omega)
 refine fE bk ?_
 refine cF ?_
 refine bF (fun hji=>?_) (fun hji=>?_)
 ·have hj':j<d.length:=by omega
  have hdj:=(H7 hj').1 (hd j hj')
  refine ⟨fun t w'=>t=.bool false/\Inv w [] [] S w',?_,?_⟩
  ·refine eH bk hj' ?_
   refine eU (by omega) ?_
   repeat (first|refine ae ?_|refine ah (by decide) ?_|refine ad ?_|refine al ?_|refine aj ?_)
   refine eH bk hj' ?_
   refine jH (by omega) ?_
   repeat (first|refine ae ?_|refine ah (by decide) ?_|refine ad ?_|refine al ?_|refine aj ?_)
   exact ⟨rfl,hI⟩
  intro t54 _ _ _ _ _ _ _ _ _ w'
  rintro ⟨rfl,hI⟩
  refine a7 (fun hb=>by cases hb) (fun _=>?_)
  refine yw (by omega) ?_
  refine eH bk hj' ?_
  refine Kv (c:=((d[j].toNat - 48:Nat):Int)) ?_ ?_
  ·rw [IntWalk.u8_in _ (by omega)]; omega
  refine mR gh gJ (IntWalk.i64_in _ (by omega)) ?_
  refine bR (by omega) ?_
  refine bR (by omega) ?_
  refine ⟨⟨j+1,m * 10+(d[j].toNat - 48),hj',rfl,?_,?_,?_,hI⟩,by simp [intOf]; omega⟩
  ·congr 1
  ·rw [Nat.pow_succ]; omega
  ·rw [<- hval,Ik hj']
 ·have:j=d.length:=by omega
  subst this
  rw [List.drop_length,AU] at hval
  refine ⟨fun t w'=>t=.int .i64 m/\Inv w [] [] S w',a7 (fun hb=>by cases hb) (fun _=>⟨rfl,hI⟩),?_⟩
  intro t5 _ _ _ w'
  rintro ⟨rfl,hI⟩
  exact done hI (by rw [hval])
abbrev Bh (k n:Int):Value:=.agg #[.int .i64 k,.int .i64 n,.string ⟨#[]⟩,.slice none 0 0]
theorem vV {w:World} {K:Value->World->Prop} {k n:Int} (hk:K (Bh k n) w):Run Tryz.prog (bP ab [(0,.int .i64 k),(1,.int .i64 n)]) w K:=by
 refine Run.of (v:=Bh k n) (w':=w) ?_ hk
 unfold bP
 rw [Sem.run_bind,run_build w ab _ #[.int .i64 k,.int .i64 n,.string ⟨#[]⟩,.slice none 0 0] (by kernel_rfl),Result.andThen_ok]
 rfl
theorem pN (n:Int) (S:ay):Pure Tryz.prog Jh [.int .i64 n] S (Bh 1 n):=by
 intro w hI
 refine z6 ?_
 unfold yX
 refine a9 hI bt fun b w' hI=>?_
 refine vV ?_
 refine aM hI 0 rfl ag rfl rfl (by simp [Value.oneCell']) fun w' hI=>?_
 refine bA hI 0 ag rfl rfl ?_
 exact done hI rfl
theorem kM (n:Int) (S:ay):Pure Tryz.prog Iv [.int .i64 n] S (Bh 2 n):=by
 intro w hI
 refine zP ?_
 unfold yP
 refine a9 hI bt fun b w' hI=>?_
 refine vV ?_
 refine aM hI 0 rfl ag rfl rfl (by simp [Value.oneCell']) fun w' hI=>?_
 refine bA hI 0 ag rfl rfl ?_
 exact done hI rfl
end
theorem Fu (s:Bs) (n e:Nat):pb s (n+1) e=if dig s e=true then pb s n (e+1) else e:=rfl
theorem Cx (s:Bs):∀ (n e:Nat),e<=pb s n e/\pb s n e<=e+n
 | 0,e=>by simp [pb]
 | n+1,e=>by
  rw [pb]
  split
  ·have:=Cx s n (e+1); omega
  ·omega
theorem sz (s:Bs):∀ (n e i:Nat),e<=i->i<pb s n e->dig s i=true
 | 0,e,i,h1,h2=>by simp [pb] at h2; omega
 | n+1,e,i,h1,h2=>by
  rw [pb] at h2
  split at h2
  ·rename_i h
   by_cases he:e=i
   ·subst he; exact h
   ·exact sz s n (e+1) i (by omega) h2
  ·omega
theorem Ck {s:Bs} {a b i:Nat} (hi:i<(cut s a b).length):∃ h:a+i<s.length,(cut s a b)[i]=s[a+i]/\a+i<b:=by
 have h1:(cut s a b).length=min b s.length - a:=by simp [cut]
 refine ⟨by omega,?_,by omega⟩
 simp [cut]
theorem CQ {s:Bs} {a b:Nat} (hb:b<=s.length):(cut s a b).length=b - a:=by simp [cut]; omega
theorem K3 {s:Bs} {a b i:Nat} (hi:i<(cut s a b).length):dig (cut s a b) i=dig s (a+i):=by
 obtain ⟨h,e,_⟩:=Ck hi
 rw [dig,dig,lK hi,lK h,e]
section
attribute [local irreducible] Run CondV ai a4
theorem zB {s:Bs} {i e:Nat} {t:T} (hn:KD s i=some (t,e)) (hi:i<=100000) (S:ay) :
  ∃ n:Int,inI n/\t=.mk 2 n emptyB []/\i<=e/\e<=i+5/\Pure Tryz.prog Cg [.string (st s),.int .i64 (i:Int)] S (.tuple #[Bh 2 n,.int .i64 (e:Int)]):=by
 unfold KD at hn
 obtain ⟨fr,hfr⟩:∃ fr,fr=if sgn s i 45=true then i+1 else i:=⟨_,rfl⟩
 simp only [<- hfr] at hn
 obtain ⟨en,hen⟩:∃ en,en=pb s 4 fr:=⟨_,rfl⟩
 simp only [<- hen] at hn
 have hle:=Cx s 4 fr
 rw [<- hen] at hle
 have hfi:i<=fr/\fr<=i+1:=by rw [hfr]; split <;> omega
 split at hn
 ·cases hn
 rename_i hc
 simp only [not_or] at hc
 obtain ⟨hc1,hc2,hc3,hc4⟩:=hc
 simp only [Option.some.injEq,Prod.mk.injEq] at hn
 obtain ⟨rfl,rfl⟩:=hn
 have hdig:∀ j,j<(cut s fr en).length->dig (cut s fr en) j=true:=fun j hj=>by
  obtain ⟨h1,h2,h3⟩:=Ck hj
  rw [K3 hj]
  exact sz s 4 fr _ (by omega) (by rw [<- hen]; exact h3)
 have hlen0:0<(cut s fr en).length:=by
  cases he:cut s fr en with
  | nil=>exact absurd he hc1
  | cons a l=>simp
 have hen2:fr<en:=by
  obtain ⟨_,_,h3⟩:=Ck hlen0
  omega
 have hens:en<=s.length:=by
  have:=sz s 4 fr (en - 1) (by omega) (by rw [<- hen]; omega)
  have:=zn this
  omega
 refine ⟨_,?_,rfl,by omega,by omega,?_⟩
 ·unfold inI; split <;> omega
 intro w hI
 refine tz ?_
 unfold pP;dsimp only
 refine a9 hI bt fun b4 w' hI=>?_
 refine ⟨fun t w'=>t=.int .i64 (fr:Int)/\Inv w [] [.blk b4 (.cells #[.int .i64 0,.int .i64 0,.string ⟨#[]⟩,.slice none 0 0] ab)] S w',?_,?_⟩
 ·refine Run.callPure dv du hI (cX s i 45 S) fun w' hI=>?_
  refine a7 (fun hb=>?_) (fun hb=>?_)
  ·refine bR (by omega) ?_
   rw [if_pos hb] at hfr
   exact ⟨by rw [hfr]; congr 1,hI⟩
  ·rw [if_neg (by rw [hb]; decide)] at hfr
   exact ⟨by rw [hfr],hI⟩
 intro t6 _ _ _ _ _ w'
 rintro ⟨rfl,hI⟩
 refine ⟨fun t w'=>∃ j:Nat,t=.int .i64 (j:Int)/\fr<=j/\j<=fr+4/\pb s (fr+4 - j) j=en/\Inv w [] [.blk b4 (.cells #[.int .i64 0,.int .i64 0,.string ⟨#[]⟩,.slice none 0 0] ab)] S w',fun t _=>fr+4 - (intOf t).toNat,
  ⟨fr,rfl,Nat.le_refl _,by omega,by rw [Nat.add_sub_cancel_left]; exact hen.symm,hI⟩,?_⟩
 intro t6 _ _ _ _ _ _ _ _ _ _ _ w'
 rintro ⟨j,rfl,hj1,hj2,hj3,hI⟩
 refine ⟨fun t w'=>t=.bool (dig s j && decide (j<fr+4))/\Inv w [] [.blk b4 (.cells #[.int .i64 0,.int .i64 0,.string ⟨#[]⟩,.slice none 0 0] ab)] S w',?_,?_⟩
 ·refine Run.callPure jx jy hI (gR s j S) fun w' hI=>?_
  cases hdj:dig s j
  ·repeat (first|refine ae ?_|refine ah (by decide) ?_|refine ad ?_|refine al ?_|refine aj ?_)
   exact ⟨rfl,hI⟩
  ·repeat (first|refine ae ?_|refine ah (by decide) ?_|refine ad ?_|refine al ?_|refine aj ?_)
   refine bR (by omega) ?_
   refine cF ?_
   repeat (first|refine ae ?_|refine ah (by decide) ?_|refine ad ?_|refine al ?_|refine aj ?_)
   refine ⟨?_,hI⟩
   rw [Bool.true_and]
   congr 1
   rw [decide_eq_decide]
   omega
 intro t25 _ _ _ _ _ _ _ _ w'
 rintro ⟨rfl,hI⟩
 refine a7 (fun hb=>?_) (fun hb=>?_)
 ·rw [Bool.and_eq_true,decide_eq_true_eq] at hb
  refine bR (by omega) ?_
  refine ⟨⟨j+1,rfl,by omega,by omega,?_,hI⟩,by simp [intOf]; omega⟩
  rw [<- hj3,show fr+4 - j=(fr+4 - (j+1))+1 by omega,Fu,if_pos hb.1]
 ·have hje:j=en:=by
   rw [<- hj3]
   by_cases h4:j=fr+4
   ·rw [h4,Nat.sub_self]; rfl
   ·rw [show fr+4 - j=(fr+4 - (j+1))+1 by omega,Fu,if_neg]
    intro hd
    rw [hd,Bool.true_and,decide_eq_false_iff_not] at hb
    omega
  subst hje
  refine x1 bk (by omega) hens ?_
  refine Run.callPure Eg ES hI (Di _ hdig hlen0 (by rw [CQ hens]; omega) hc2 S) fun w' hI=>?_
  obtain ⟨n,hn⟩:∃ n,n=AU (cut s fr j) 0:=⟨_,rfl⟩
  rw [<- hn]
  refine aT (v:=.int .i64 (n:Int)) rfl ?_
  refine aT (v:=.bool true) rfl ?_
  simp only [<- hn] at hc3 hc4 ⊢
  refine ⟨fun t w'=>t=.bool false/\Inv w [] [.blk b4 (.cells #[.int .i64 0,.int .i64 0,.string ⟨#[]⟩,.slice none 0 0] ab)] S w',?_,?_⟩
  ·refine cN ?_
   repeat (first|refine ae ?_|refine ah (by decide) ?_|refine ad ?_|refine al ?_|refine aj ?_)
   by_cases hfi':i<fr
   ·refine G6 (by omega) ?_
    repeat (first|refine ae ?_|refine ah (by decide) ?_|refine ad ?_|refine al ?_|refine aj ?_)
    refine bO ?_
    have:¬ n=0:=fun h=>hc3 ⟨hfi',h⟩
    rw [decide_eq_false (by omega)]
    repeat (first|refine ae ?_|refine ah (by decide) ?_|refine ad ?_|refine al ?_|refine aj ?_)
    refine jH (by omega) ?_
    repeat (first|refine ae ?_|refine ah (by decide) ?_|refine ad ?_|refine al ?_|refine aj ?_)
    exact ⟨rfl,hI⟩
   ·refine jH (by omega) ?_
    repeat (first|refine ae ?_|refine ah (by decide) ?_|refine ad ?_|refine al ?_|refine aj ?_)
    refine jH (by omega) ?_
    repeat (first|refine ae ?_|refine ah (by decide) ?_|refine ad ?_|refine al ?_|refine aj ?_)
    exact ⟨rfl,hI⟩
  intro t50 _ _ _ _ _ _ _ _ _ _ _ _ _ _ w'
  rintro ⟨rfl,hI⟩
  refine a7 (fun hb=>by cases hb) (fun _=>?_)
  refine ⟨fun t w'=>t=.int .i64 (if i<fr then -(n:Int) else n)/\Inv w [] [.blk b4 (.cells #[.int .i64 0,.int .i64 0,.string ⟨#[]⟩,.slice none 0 0] ab)] S w',?_,?_⟩
  ·refine ff ?_
   refine bF (fun hb=>?_) (fun hb=>?_)
   ·refine Lc (by omega) ?_
    exact ⟨by rw [if_pos (by omega)],hI⟩
   ·exact ⟨by rw [if_neg (by omega)],hI⟩
  intro t8 _ _ _ _ _ w'
  rintro ⟨rfl,hI⟩
  refine Run.callPure p5 qf hI (kM _ S) fun w' hI=>?_
  refine aM hI 0 rfl ag rfl rfl (by simp [Value.oneCell']) fun w' hI=>?_
  refine bA hI 0 ag rfl rfl ?_
  exact done hI rfl
end
theorem RdSl.some1 {α:Type} {S:ay} {k:Nat} {R:List Value->α->Prop} {v:Value} {xs:List α} (h:RdSl S k R v xs) (h0:0<xs.length):∃ b o cap,v=.slice (some ⟨b,o,none⟩) xs.length cap:=by
 obtain ⟨b,o,cap,c,E,fz,e,_,_⟩:=h.at_ h0
 exact ⟨b,o,cap,e⟩
theorem Dx (s:Bs) (n e:Nat):wm s (n+1) e=if sml s e=true then wm s n (e+1) else e:=rfl
def H3 (o:Option (Bs × Nat)):Value:=match o with
 | none=>.tuple #[.string ⟨#[]⟩,.int .i64 (-1)]
 | some (n,e)=>.tuple #[.string (st n),.int .i64 (e:Int)]
theorem FL (s:Bs) (i:Nat) {j:Nat} (h:j<signs.length) (b:Bs):iB s i (signs.drop j) b=iB s i (signs.drop (j+1)) (if decide (i+signs[j].size<=s.length)=true/\cut s i (i+signs[j].size)=bs signs[j]/\b.length<signs[j].size then bs signs[j] else b):=by
 rw [List.drop_eq_getElem_cons h,iB]
theorem DV:∀ x∈signs,x.size<=3:=by decide
section
attribute [local irreducible] Run CondV ai a4
theorem r4 {s:Bs} {i:Nat} (hi:i<s.length) (hs:s.length<=100000) (S:ay):Pure Tryz.prog Hs [.string (st s),.int .i64 (i:Int)] S (H3 (rL s i)):=by
 intro w hI
 refine xG ?_
 unfold vp
 obtain ⟨E,hE⟩:∃ E,E=wm s (s.length - i) i:=⟨_,rfl⟩
 have hnm:rL s i=if i+6<E then none else if i<E then some (cut s i E,E) else if iB s i signs []=[] then none else some (iB s i signs [],i+(iB s i signs []).length):=by
  rw [rL,<- hE]
 refine ⟨fun t w'=>∃ e:Nat,t=.int .i64 (e:Int)/\i<=e/\e<=s.length/\wm s (s.length - e) e=E/\Inv w [] [] S w',fun t _=>s.length - (intOf t).toNat,⟨i,rfl,Nat.le_refl _,by omega,hE.symm,hI⟩,?_⟩
 intro t6 _ _ _ _ _ w'
 rintro ⟨e,rfl,he1,he2,he3,hI⟩
 refine Run.callPure sS sw hI (my s e S) fun w' hI=>?_
 refine a7 (fun hb=>?_) (fun hb=>?_)
 ·have hlt:=zn hb
  refine bR (by omega) ?_
  refine ⟨⟨e+1,rfl,by omega,by omega,?_,hI⟩,by simp [intOf]; omega⟩
  rw [<- he3,show s.length - e=(s.length - (e+1))+1 by omega,Dx,if_pos hb]
 have heE:e=E:=by
  rw [<- he3]
  by_cases h:e=s.length
  ·rw [h,Nat.sub_self,wm]
  ·rw [show s.length - e=(s.length - (e+1))+1 by omega,Dx,if_neg (by rw [hb]; decide)]
 subst heE
 refine bR (by omega) ?_
 refine ff ?_
 refine bF (fun hb=>done hI (by rw [hnm,if_pos (by omega)]; rfl)) (fun hb=>?_)
 rw [if_neg (by omega)] at hnm
 refine ff ?_
 refine bF (fun hb=>?_) (fun hb=>?_)
 ·refine x1 bk (by omega) (by omega) ?_
  exact done hI (by rw [hnm,if_pos (by omega)]; rfl)
 rw [if_neg (by omega)] at hnm
 refine Run.call0 rb sY hI (pE S) fun v I' S1 w'=>?_
 rintro ⟨rfl,hle,hr⟩ _ hI
 obtain ⟨b,o,cap,rfl⟩:=RdSl.some1 hr (by decide)
 refine ⟨fun t u w'=>∃ (j:Nat) (best:Bs),j<=signs.length/\t=.int .i64 (j:Int)/\u=.string (st best)/\best.length<=3/\iB s i (signs.drop j) best=iB s i signs []/\Inv w [] [] S1 w',fun t _ _=>signs.length - (intOf t).toNat,
  ⟨0,[],Nat.zero_le _,rfl,rfl,by simp,rfl,hI.nil⟩,?_⟩
 intro t9 _ _ t7 _ _ _ _ t65 t64 t63 t62 t61 t60 t59 t58 t57 t56 t55 t54 t53 t52 t51 t50 t49 t48 t47 t46 t45 t44 t43 t42 t41 _ _ _ _ _ _ _ _ _ _ w'
 rintro ⟨j,best,hj0,rfl,rfl,hbl,hbest,hI⟩
 have h15:signs.length=15:=rfl
 refine bm hr cH ?_
 refine cF ?_
 refine bF (fun hji=>?_) (fun hji=>?_)
 ·have hj:j<signs.length:=by omega
  obtain ⟨x,hx⟩:∃ x,x=signs[j]:=⟨_,rfl⟩
  have hx3:x.size<=3:=by rw [hx]; exact DV _ (List.getElem_mem hj)
  obtain ⟨b',o',cap',c,E',fz,hsl,hS,hR⟩:=hr.at_ hj
  cases hsl
  have hcx:c[o+j * 1]?=some (.string x):=by rw [hx]; exact bx hR 0 _ rfl
  rw [FL s i hj,<- hx] at hbest
  refine ⟨fun u w'=>∃ best',u=.string (st best')/\best'.length<=3/\iB s i (signs.drop (j+1)) best'=iB s i signs []/\Inv w [] [] S1 w',?_,?_⟩
  ·refine bq cH hj ?_
   refine eE bz ((hI.cellS hS).trans hcx) ?_
   refine ij bk ?_
   by_cases hlen:i+x.size<=s.length
   ·cases hq:decide (st (cut s i (i+x.size))=x)
    ·skip
     refine ⟨fun D dd de cO dq dr dn di dj dk dp dl dt cS cI cU cQ cP cR cT ey eA eC eq ez er w_=>(D 0=true->er=.int .i64 (i:Int))/\(D 1=true->ez=.int .i64 (x.size:Int))/\(D 2=true->eq=.int .i64 ((i+x.size:Nat):Int))/\(D 3=true->eC=.string (st s))/\(D 4=true->eA=.int .i64 (s.length:Int))/\(D 5=true->ey=.bool true)/\(D 6=true->cT=.bool true)/\(D 7=true->cR=.string (st s))/\(D 8=true->cP=.int .i64 (i:Int))/\(D 9=true->cQ=.int .i64 (i:Int))/\(D 10=true->cU=.int .i64 (x.size:Int))/\(D 11=true->cI=.int .i64 ((i+x.size:Nat):Int))/\(D 12=true->cS=.string (st (cut s i (i+x.size))))/\(D 13=true->dt=.slice (some ⟨b,o,none⟩) signs.length cap)/\(D 14=true->dl=.int .i64 (j:Int))/\(D 15=true->dp=.pointer (some ⟨b,o+j * 1,none⟩))/\(D 16=true->dk=.string x)/\(D 17=true->dj=.bool false)/\(D 18=true->di=.bool false)/\(D 19=true->dn=.bool false)/\(D 20=true->dr=undef)/\(D 21=true->dq=undef)/\(D 22=true->cO=undef)/\(D 23=true->de=undef)/\(D 24=true->dd=.bool false)/\Inv w [] [] S1 w_,⟨af,af,af,af,af,af,af,af,af,af,af,af,af,af,af,af,af,af,af,af,af,af,af,af,af,hI.draw⟩,⟨?_,?_,?_,?_,?_,?_,?_,?_,?_,?_,?_,?_,?_,?_,?_,?_,?_,?_,?_,?_,?_,?_,?_,?_,?_,trivial⟩,?_⟩
     ·intro D aS  dd de cO dq dr dn di dj dk dp dl dt cS cI cU cQ cP cR cT ey eA eC eq ez er w_
      rintro ⟨aA,az,aB,ax,aD,aC,aw,aJ,aN,aR,aq,au,aH,aU,aX,aW,aY,aV,aZ,a6,bd,be,ba,bf,bh,hI⟩
      exact ⟨fun _=>rfl,az,aB,ax,aD,aC,aw,aJ,aN,aR,aq,au,aH,aU,aX,aW,aY,aV,aZ,a6,bd,be,ba,bf,bh,hI⟩
     ·intro D aS  dd de cO dq dr dn di dj dk dp dl dt cS cI cU cQ cP cR cT ey eA eC eq ez er w_
      rintro ⟨aA,az,aB,ax,aD,aC,aw,aJ,aN,aR,aq,au,aH,aU,aX,aW,aY,aV,aZ,a6,bd,be,ba,bf,bh,hI⟩
      exact ⟨aA,fun _=>rfl,aB,ax,aD,aC,aw,aJ,aN,aR,aq,au,aH,aU,aX,aW,aY,aV,aZ,a6,bd,be,ba,bf,bh,hI⟩
     ·intro D aS cA iz dd de cO dq dr dn di dj dk dp dl dt cS cI cU cQ cP cR cT ey eA eC eq ez er w_
      rintro ⟨aA,az,aB,ax,aD,aC,aw,aJ,aN,aR,aq,au,aH,aU,aX,aW,aY,aV,aZ,a6,bd,be,ba,bf,bh,hI⟩
      obtain rfl:=aA cA
      obtain rfl:=az iz
      refine bR (by omega) ?_
      exact ⟨aA,az,fun _=>rfl,ax,aD,aC,aw,aJ,aN,aR,aq,au,aH,aU,aX,aW,aY,aV,aZ,a6,bd,be,ba,bf,bh,hI⟩
     ·intro D aS  dd de cO dq dr dn di dj dk dp dl dt cS cI cU cQ cP cR cT ey eA eC eq ez er w_
      rintro ⟨aA,az,aB,ax,aD,aC,aw,aJ,aN,aR,aq,au,aH,aU,aX,aW,aY,aV,aZ,a6,bd,be,ba,bf,bh,hI⟩
      exact ⟨aA,az,aB,fun _=>rfl,aD,aC,aw,aJ,aN,aR,aq,au,aH,aU,aX,aW,aY,aV,aZ,a6,bd,be,ba,bf,bh,hI⟩
     ·intro D aS dh dd de cO dq dr dn di dj dk dp dl dt cS cI cU cQ cP cR cT ey eA eC eq ez er w_
      rintro ⟨aA,az,aB,ax,aD,aC,aw,aJ,aN,aR,aq,au,aH,aU,aX,aW,aY,aV,aZ,a6,bd,be,ba,bf,bh,hI⟩
      obtain rfl:=ax dh
      refine fE bk ?_
      exact ⟨aA,az,aB,ax,fun _=>rfl,aC,aw,aJ,aN,aR,aq,au,aH,aU,aX,aW,aY,aV,aZ,a6,bd,be,ba,bf,bh,hI⟩
     ·intro D aS cM eD dd de cO dq dr dn di dj dk dp dl dt cS cI cU cQ cP cR cT ey eA eC eq ez er w_
      rintro ⟨aA,az,aB,ax,aD,aC,aw,aJ,aN,aR,aq,au,aH,aU,aX,aW,aY,aV,aZ,a6,bd,be,ba,bf,bh,hI⟩
      obtain rfl:=aB cM
      obtain rfl:=aD eD
      refine Ci (by omega) ?_
      exact ⟨aA,az,aB,ax,aD,fun _=>rfl,aw,aJ,aN,aR,aq,au,aH,aU,aX,aW,aY,aV,aZ,a6,bd,be,ba,bf,bh,hI⟩
     ·intro D aS dT dd de cO dq dr dn di dj dk dp dl dt cS cI cU cQ cP cR cT ey eA eC eq ez er w_
      rintro ⟨aA,az,aB,ax,aD,aC,aw,aJ,aN,aR,aq,au,aH,aU,aX,aW,aY,aV,aZ,a6,bd,be,ba,bf,bh,hI⟩
      obtain rfl:=aC dT
      exact ⟨aA,az,aB,ax,aD,aC,fun _=>rfl,aJ,aN,aR,aq,au,aH,aU,aX,aW,aY,aV,aZ,a6,bd,be,ba,bf,bh,hI⟩
     ·intro D aS bW dd de cO dq dr dn di dj dk dp dl dt cS cI cU cQ cP cR cT ey eA eC eq ez er w_
      rintro ⟨aA,az,aB,ax,aD,aC,aw,aJ,aN,aR,aq,au,aH,aU,aX,aW,aY,aV,aZ,a6,bd,be,ba,bf,bh,hI⟩
      obtain rfl:=aw bW
      refine ae ?_
      exact ⟨aA,az,aB,ax,aD,aC,aw,fun _=>rfl,aN,aR,aq,au,aH,aU,aX,aW,aY,aV,aZ,a6,bd,be,ba,bf,bh,hI⟩
     ·intro D aS bW dd de cO dq dr dn di dj dk dp dl dt cS cI cU cQ cP cR cT ey eA eC eq ez er w_
      rintro ⟨aA,az,aB,ax,aD,aC,aw,aJ,aN,aR,aq,au,aH,aU,aX,aW,aY,aV,aZ,a6,bd,be,ba,bf,bh,hI⟩
      obtain rfl:=aw bW
      refine ae ?_
      exact ⟨aA,az,aB,ax,aD,aC,aw,aJ,fun _=>rfl,aR,aq,au,aH,aU,aX,aW,aY,aV,aZ,a6,bd,be,ba,bf,bh,hI⟩
     ·intro D aS bW dd de cO dq dr dn di dj dk dp dl dt cS cI cU cQ cP cR cT ey eA eC eq ez er w_
      rintro ⟨aA,az,aB,ax,aD,aC,aw,aJ,aN,aR,aq,au,aH,aU,aX,aW,aY,aV,aZ,a6,bd,be,ba,bf,bh,hI⟩
      obtain rfl:=aw bW
      refine ae ?_
      exact ⟨aA,az,aB,ax,aD,aC,aw,aJ,aN,fun _=>rfl,aq,au,aH,aU,aX,aW,aY,aV,aZ,a6,bd,be,ba,bf,bh,hI⟩
     ·intro D aS bW dd de cO dq dr dn di dj dk dp dl dt cS cI cU cQ cP cR cT ey eA eC eq ez er w_
      rintro ⟨aA,az,aB,ax,aD,aC,aw,aJ,aN,aR,aq,au,aH,aU,aX,aW,aY,aV,aZ,a6,bd,be,ba,bf,bh,hI⟩
      obtain rfl:=aw bW
      refine ae ?_
      exact ⟨aA,az,aB,ax,aD,aC,aw,aJ,aN,aR,fun _=>rfl,au,aH,aU,aX,aW,aY,aV,aZ,a6,bd,be,ba,bf,bh,hI⟩
     ·intro D aS o3 gE kK dd de cO dq dr dn di dj dk dp dl dt cS cI cU cQ cP cR cT ey eA eC eq ez er w_
      rintro ⟨aA,az,aB,ax,aD,aC,aw,aJ,aN,aR,aq,au,aH,aU,aX,aW,aY,aV,aZ,a6,bd,be,ba,bf,bh,hI⟩
      obtain rfl:=aR o3
      obtain rfl:=aq gE
      obtain rfl:=aw kK
      refine ae ?_; refine bR (by omega) ?_
      exact ⟨aA,az,aB,ax,aD,aC,aw,aJ,aN,aR,aq,fun _=>rfl,aH,aU,aX,aW,aY,aV,aZ,a6,bd,be,ba,bf,bh,hI⟩
     ·intro D aS eo fT Ec Jz dd de cO dq dr dn di dj dk dp dl dt cS cI cU cQ cP cR cT ey eA eC eq ez er w_
      rintro ⟨aA,az,aB,ax,aD,aC,aw,aJ,aN,aR,aq,au,aH,aU,aX,aW,aY,aV,aZ,a6,bd,be,ba,bf,bh,hI⟩
      obtain rfl:=aJ eo
      obtain rfl:=aN fT
      obtain rfl:=au Ec
      obtain rfl:=aw Jz
      refine ae ?_; refine x1 bk (by omega) (by omega) ?_
      exact ⟨aA,az,aB,ax,aD,aC,aw,aJ,aN,aR,aq,au,fun _=>rfl,aU,aX,aW,aY,aV,aZ,a6,bd,be,ba,bf,bh,hI⟩
     ·intro D aS bW dd de cO dq dr dn di dj dk dp dl dt cS cI cU cQ cP cR cT ey eA eC eq ez er w_
      rintro ⟨aA,az,aB,ax,aD,aC,aw,aJ,aN,aR,aq,au,aH,aU,aX,aW,aY,aV,aZ,a6,bd,be,ba,bf,bh,hI⟩
      obtain rfl:=aw bW
      refine ae ?_
      exact ⟨aA,az,aB,ax,aD,aC,aw,aJ,aN,aR,aq,au,aH,fun _=>rfl,aX,aW,aY,aV,aZ,a6,bd,be,ba,bf,bh,hI⟩
     ·intro D aS bW dd de cO dq dr dn di dj dk dp dl dt cS cI cU cQ cP cR cT ey eA eC eq ez er w_
      rintro ⟨aA,az,aB,ax,aD,aC,aw,aJ,aN,aR,aq,au,aH,aU,aX,aW,aY,aV,aZ,a6,bd,be,ba,bf,bh,hI⟩
      obtain rfl:=aw bW
      refine ae ?_
      exact ⟨aA,az,aB,ax,aD,aC,aw,aJ,aN,aR,aq,au,aH,aU,fun _=>rfl,aW,aY,aV,aZ,a6,bd,be,ba,bf,bh,hI⟩
     ·intro D aS tm Ez kK dd de cO dq dr dn di dj dk dp dl dt cS cI cU cQ cP cR cT ey eA eC eq ez er w_
      rintro ⟨aA,az,aB,ax,aD,aC,aw,aJ,aN,aR,aq,au,aH,aU,aX,aW,aY,aV,aZ,a6,bd,be,ba,bf,bh,hI⟩
      obtain rfl:=aU tm
      obtain rfl:=aX Ez
      obtain rfl:=aw kK
      refine ae ?_; refine bq cH hj ?_
      exact ⟨aA,az,aB,ax,aD,aC,aw,aJ,aN,aR,aq,au,aH,aU,aX,fun _=>rfl,aY,aV,aZ,a6,bd,be,ba,bf,bh,hI⟩
     ·intro D aS xM iL dd de cO dq dr dn di dj dk dp dl dt cS cI cU cQ cP cR cT ey eA eC eq ez er w_
      rintro ⟨aA,az,aB,ax,aD,aC,aw,aJ,aN,aR,aq,au,aH,aU,aX,aW,aY,aV,aZ,a6,bd,be,ba,bf,bh,hI⟩
      obtain rfl:=aW xM
      obtain rfl:=aw iL
      refine ae ?_; refine eE bz ((hI.cellS hS).trans hcx) ?_
      exact ⟨aA,az,aB,ax,aD,aC,aw,aJ,aN,aR,aq,au,aH,aU,aX,aW,fun _=>rfl,aV,aZ,a6,bd,be,ba,bf,bh,hI⟩
     ·intro D aS tp uX kK dd de cO dq dr dn di dj dk dp dl dt cS cI cU cQ cP cR cT ey eA eC eq ez er w_
      rintro ⟨aA,az,aB,ax,aD,aC,aw,aJ,aN,aR,aq,au,aH,aU,aX,aW,aY,aV,aZ,a6,bd,be,ba,bf,bh,hI⟩
      obtain rfl:=aH tp
      obtain rfl:=aY uX
      obtain rfl:=aw kK
      refine ae ?_; refine cK ?_; rw [hq]
      exact ⟨aA,az,aB,ax,aD,aC,aw,aJ,aN,aR,aq,au,aH,aU,aX,aW,aY,fun _=>rfl,aZ,a6,bd,be,ba,bf,bh,hI⟩
     ·intro D aS bW DT dd de cO dq dr dn di dj dk dp dl dt cS cI cU cQ cP cR cT ey eA eC eq ez er w_
      rintro ⟨aA,az,aB,ax,aD,aC,aw,aJ,aN,aR,aq,au,aH,aU,aX,aW,aY,aV,aZ,a6,bd,be,ba,bf,bh,hI⟩
      obtain rfl:=aw bW
      obtain rfl:=aV DT
      refine al ?_
      exact ⟨aA,az,aB,ax,aD,aC,aw,aJ,aN,aR,aq,au,aH,aU,aX,aW,aY,aV,fun _=>rfl,a6,bd,be,ba,bf,bh,hI⟩
     ·intro D aS zu iL dd de cO dq dr dn di dj dk dp dl dt cS cI cU cQ cP cR cT ey eA eC eq ez er w_
      rintro ⟨aA,az,aB,ax,aD,aC,aw,aJ,aN,aR,aq,au,aH,aU,aX,aW,aY,aV,aZ,a6,bd,be,ba,bf,bh,hI⟩
      obtain rfl:=aZ zu
      exact ⟨aA,az,aB,ax,aD,aC,aw,aJ,aN,aR,aq,au,aH,aU,aX,aW,aY,aV,aZ,fun _=>rfl,bd,be,ba,bf,bh,hI⟩
     ·intro D aS iq dd de cO dq dr dn di dj dk dp dl dt cS cI cU cQ cP cR cT ey eA eC eq ez er w_
      rintro ⟨aA,az,aB,ax,aD,aC,aw,aJ,aN,aR,aq,au,aH,aU,aX,aW,aY,aV,aZ,a6,bd,be,ba,bf,bh,hI⟩
      obtain rfl:=a6 iq
      refine ah (c:=false) (b:=true) (by decide) ?_
      exact ⟨aA,az,aB,ax,aD,aC,aw,aJ,aN,aR,aq,au,aH,aU,aX,aW,aY,aV,aZ,a6,fun _=>rfl,be,ba,bf,bh,hI⟩
     ·intro D aS iq dd de cO dq dr dn di dj dk dp dl dt cS cI cU cQ cP cR cT ey eA eC eq ez er w_
      rintro ⟨aA,az,aB,ax,aD,aC,aw,aJ,aN,aR,aq,au,aH,aU,aX,aW,aY,aV,aZ,a6,bd,be,ba,bf,bh,hI⟩
      obtain rfl:=a6 iq
      refine ah (c:=false) (b:=true) (by decide) ?_
      exact ⟨aA,az,aB,ax,aD,aC,aw,aJ,aN,aR,aq,au,aH,aU,aX,aW,aY,aV,aZ,a6,bd,fun _=>rfl,ba,bf,bh,hI⟩
     ·intro D aS y5 DO dd de cO dq dr dn di dj dk dp dl dt cS cI cU cQ cP cR cT ey eA eC eq ez er w_
      rintro ⟨aA,az,aB,ax,aD,aC,aw,aJ,aN,aR,aq,au,aH,aU,aX,aW,aY,aV,aZ,a6,bd,be,ba,bf,bh,hI⟩
      obtain rfl:=be y5
      obtain rfl:=a6 DO
      refine ah (c:=false) (b:=true) (by decide) ?_
      exact ⟨aA,az,aB,ax,aD,aC,aw,aJ,aN,aR,aq,au,aH,aU,aX,aW,aY,aV,aZ,a6,bd,be,fun _=>rfl,bf,bh,hI⟩
     ·intro D aS yy EI Fc dd de cO dq dr dn di dj dk dp dl dt cS cI cU cQ cP cR cT ey eA eC eq ez er w_
      rintro ⟨aA,az,aB,ax,aD,aC,aw,aJ,aN,aR,aq,au,aH,aU,aX,aW,aY,aV,aZ,a6,bd,be,ba,bf,bh,hI⟩
      obtain rfl:=bd yy
      obtain rfl:=ba EI
      obtain rfl:=a6 Fc
      refine ah (c:=false) (b:=true) (by decide) ?_
      exact ⟨aA,az,aB,ax,aD,aC,aw,aJ,aN,aR,aq,au,aH,aU,aX,aW,aY,aV,aZ,a6,bd,be,ba,fun _=>rfl,bh,hI⟩
     ·intro D aS iq Dr dd de cO dq dr dn di dj dk dp dl dt cS cI cU cQ cP cR cT ey eA eC eq ez er w_
      rintro ⟨aA,az,aB,ax,aD,aC,aw,aJ,aN,aR,aq,au,aH,aU,aX,aW,aY,aV,aZ,a6,bd,be,ba,bf,bh,hI⟩
      obtain rfl:=a6 iq
      obtain rfl:=bf Dr
      refine aj ?_
      exact ⟨aA,az,aB,ax,aD,aC,aw,aJ,aN,aR,aq,au,aH,aU,aX,aW,aY,aV,aZ,a6,bd,be,ba,bf,fun _=>rfl,hI⟩
     intro D Gx F2 Ht FB GB F3 C9 Ce CE BP Cp CM jV gw fg jA g7 gc fj ft fL fX fM fP fY dd de cO dq dr dn di dj dk dp dl dt cS cI cU cQ cP cR cT ey eA eC eq ez er w_
     rintro ⟨aA,az,aB,ax,aD,aC,aw,aJ,aN,aR,aq,au,aH,aU,aX,aW,aY,aV,aZ,a6,bd,be,ba,bf,bh,hI⟩
     obtain rfl:=bh Gx
     obtain rfl:=bf F2
     obtain rfl:=ba Ht
     obtain rfl:=be FB
     obtain rfl:=bd GB
     obtain rfl:=a6 F3
     obtain rfl:=aZ C9
     obtain rfl:=aV Ce
     obtain rfl:=aY CE
     obtain rfl:=aW BP
     obtain rfl:=aX Cp
     obtain rfl:=aU CM
     obtain rfl:=aH jV
     obtain rfl:=au gw
     obtain rfl:=aq fg
     obtain rfl:=aR jA
     obtain rfl:=aN g7
     obtain rfl:=aJ gc
     obtain rfl:=aw fj
     obtain rfl:=aC ft
     obtain rfl:=aD fL
     obtain rfl:=ax fX
     obtain rfl:=aB fM
     obtain rfl:=az fP
     obtain rfl:=aA fY
     clear aA az aB ax aD aC aw aJ aN aR aq au aH aU aX aW aY aV aZ a6 bd be ba bf bh
     refine a7 (fun hb=>by cases hb) (fun _=>?_)
     refine ⟨best,rfl,hbl,?_,hI⟩
     rw [if_neg] at hbest
     ·exact hbest
     ·rintro ⟨_,h2,_⟩
      rw [decide_eq_false_iff_not] at hq
      exact hq (by rw [h2])
    ·rw [decide_eq_true_eq] at hq
     have hq':=hq
     have hq:decide (st (cut s i (i+x.size))=x)=true:=decide_eq_true hq'
     skip
     refine ⟨fun D dd de cO dq dr dn di dj dk dp dl dt cS cI cU cQ cP cR cT ey eA eC eq ez er w_=>(D 0=true->er=.int .i64 (i:Int))/\(D 1=true->ez=.int .i64 (x.size:Int))/\(D 2=true->eq=.int .i64 ((i+x.size:Nat):Int))/\(D 3=true->eC=.string (st s))/\(D 4=true->eA=.int .i64 (s.length:Int))/\(D 5=true->ey=.bool true)/\(D 6=true->cT=.bool true)/\(D 7=true->cR=.string (st s))/\(D 8=true->cP=.int .i64 (i:Int))/\(D 9=true->cQ=.int .i64 (i:Int))/\(D 10=true->cU=.int .i64 (x.size:Int))/\(D 11=true->cI=.int .i64 ((i+x.size:Nat):Int))/\(D 12=true->cS=.string (st (cut s i (i+x.size))))/\(D 13=true->dt=.slice (some ⟨b,o,none⟩) signs.length cap)/\(D 14=true->dl=.int .i64 (j:Int))/\(D 15=true->dp=.pointer (some ⟨b,o+j * 1,none⟩))/\(D 16=true->dk=.string x)/\(D 17=true->dj=.bool true)/\(D 18=true->di=.bool true)/\(D 19=true->dn=.bool true)/\(D 20=true->dr=.int .i64 (x.size:Int))/\(D 21=true->dq=.string (st best))/\(D 22=true->cO=.int .i64 (best.length:Int))/\(D 23=true->de=.bool (decide ((best.length:Int)<(x.size:Int))))/\(D 24=true->dd=.bool (decide ((best.length:Int)<(x.size:Int))))/\Inv w [] [] S1 w_,⟨af,af,af,af,af,af,af,af,af,af,af,af,af,af,af,af,af,af,af,af,af,af,af,af,af,hI.draw⟩,⟨?_,?_,?_,?_,?_,?_,?_,?_,?_,?_,?_,?_,?_,?_,?_,?_,?_,?_,?_,?_,?_,?_,?_,?_,?_,trivial⟩,?_⟩
     ·intro D aS  dd de cO dq dr dn di dj dk dp dl dt cS cI cU cQ cP cR cT ey eA eC eq ez er w_
      rintro ⟨aA,az,aB,ax,aD,aC,aw,aJ,aN,aR,aq,au,aH,aU,aX,aW,aY,aV,aZ,a6,bd,be,ba,bf,bh,hI⟩
      exact ⟨fun _=>rfl,az,aB,ax,aD,aC,aw,aJ,aN,aR,aq,au,aH,aU,aX,aW,aY,aV,aZ,a6,bd,be,ba,bf,bh,hI⟩
     ·intro D aS  dd de cO dq dr dn di dj dk dp dl dt cS cI cU cQ cP cR cT ey eA eC eq ez er w_
      rintro ⟨aA,az,aB,ax,aD,aC,aw,aJ,aN,aR,aq,au,aH,aU,aX,aW,aY,aV,aZ,a6,bd,be,ba,bf,bh,hI⟩
      exact ⟨aA,fun _=>rfl,aB,ax,aD,aC,aw,aJ,aN,aR,aq,au,aH,aU,aX,aW,aY,aV,aZ,a6,bd,be,ba,bf,bh,hI⟩
     ·intro D aS cA iz dd de cO dq dr dn di dj dk dp dl dt cS cI cU cQ cP cR cT ey eA eC eq ez er w_
      rintro ⟨aA,az,aB,ax,aD,aC,aw,aJ,aN,aR,aq,au,aH,aU,aX,aW,aY,aV,aZ,a6,bd,be,ba,bf,bh,hI⟩
      obtain rfl:=aA cA
      obtain rfl:=az iz
      refine bR (by omega) ?_
      exact ⟨aA,az,fun _=>rfl,ax,aD,aC,aw,aJ,aN,aR,aq,au,aH,aU,aX,aW,aY,aV,aZ,a6,bd,be,ba,bf,bh,hI⟩
     ·intro D aS  dd de cO dq dr dn di dj dk dp dl dt cS cI cU cQ cP cR cT ey eA eC eq ez er w_
      rintro ⟨aA,az,aB,ax,aD,aC,aw,aJ,aN,aR,aq,au,aH,aU,aX,aW,aY,aV,aZ,a6,bd,be,ba,bf,bh,hI⟩
      exact ⟨aA,az,aB,fun _=>rfl,aD,aC,aw,aJ,aN,aR,aq,au,aH,aU,aX,aW,aY,aV,aZ,a6,bd,be,ba,bf,bh,hI⟩
     ·intro D aS dh dd de cO dq dr dn di dj dk dp dl dt cS cI cU cQ cP cR cT ey eA eC eq ez er w_
      rintro ⟨aA,az,aB,ax,aD,aC,aw,aJ,aN,aR,aq,au,aH,aU,aX,aW,aY,aV,aZ,a6,bd,be,ba,bf,bh,hI⟩
      obtain rfl:=ax dh
      refine fE bk ?_
      exact ⟨aA,az,aB,ax,fun _=>rfl,aC,aw,aJ,aN,aR,aq,au,aH,aU,aX,aW,aY,aV,aZ,a6,bd,be,ba,bf,bh,hI⟩
     ·intro D aS cM eD dd de cO dq dr dn di dj dk dp dl dt cS cI cU cQ cP cR cT ey eA eC eq ez er w_
      rintro ⟨aA,az,aB,ax,aD,aC,aw,aJ,aN,aR,aq,au,aH,aU,aX,aW,aY,aV,aZ,a6,bd,be,ba,bf,bh,hI⟩
      obtain rfl:=aB cM
      obtain rfl:=aD eD
      refine Ci (by omega) ?_
      exact ⟨aA,az,aB,ax,aD,fun _=>rfl,aw,aJ,aN,aR,aq,au,aH,aU,aX,aW,aY,aV,aZ,a6,bd,be,ba,bf,bh,hI⟩
     ·intro D aS dT dd de cO dq dr dn di dj dk dp dl dt cS cI cU cQ cP cR cT ey eA eC eq ez er w_
      rintro ⟨aA,az,aB,ax,aD,aC,aw,aJ,aN,aR,aq,au,aH,aU,aX,aW,aY,aV,aZ,a6,bd,be,ba,bf,bh,hI⟩
      obtain rfl:=aC dT
      exact ⟨aA,az,aB,ax,aD,aC,fun _=>rfl,aJ,aN,aR,aq,au,aH,aU,aX,aW,aY,aV,aZ,a6,bd,be,ba,bf,bh,hI⟩
     ·intro D aS bW dd de cO dq dr dn di dj dk dp dl dt cS cI cU cQ cP cR cT ey eA eC eq ez er w_
      rintro ⟨aA,az,aB,ax,aD,aC,aw,aJ,aN,aR,aq,au,aH,aU,aX,aW,aY,aV,aZ,a6,bd,be,ba,bf,bh,hI⟩
      obtain rfl:=aw bW
      refine ae ?_
      exact ⟨aA,az,aB,ax,aD,aC,aw,fun _=>rfl,aN,aR,aq,au,aH,aU,aX,aW,aY,aV,aZ,a6,bd,be,ba,bf,bh,hI⟩
     ·intro D aS bW dd de cO dq dr dn di dj dk dp dl dt cS cI cU cQ cP cR cT ey eA eC eq ez er w_
      rintro ⟨aA,az,aB,ax,aD,aC,aw,aJ,aN,aR,aq,au,aH,aU,aX,aW,aY,aV,aZ,a6,bd,be,ba,bf,bh,hI⟩
      obtain rfl:=aw bW
      refine ae ?_
      exact ⟨aA,az,aB,ax,aD,aC,aw,aJ,fun _=>rfl,aR,aq,au,aH,aU,aX,aW,aY,aV,aZ,a6,bd,be,ba,bf,bh,hI⟩
     ·intro D aS bW dd de cO dq dr dn di dj dk dp dl dt cS cI cU cQ cP cR cT ey eA eC eq ez er w_
      rintro ⟨aA,az,aB,ax,aD,aC,aw,aJ,aN,aR,aq,au,aH,aU,aX,aW,aY,aV,aZ,a6,bd,be,ba,bf,bh,hI⟩
      obtain rfl:=aw bW
      refine ae ?_
      exact ⟨aA,az,aB,ax,aD,aC,aw,aJ,aN,fun _=>rfl,aq,au,aH,aU,aX,aW,aY,aV,aZ,a6,bd,be,ba,bf,bh,hI⟩
     ·intro D aS bW dd de cO dq dr dn di dj dk dp dl dt cS cI cU cQ cP cR cT ey eA eC eq ez er w_
      rintro ⟨aA,az,aB,ax,aD,aC,aw,aJ,aN,aR,aq,au,aH,aU,aX,aW,aY,aV,aZ,a6,bd,be,ba,bf,bh,hI⟩
      obtain rfl:=aw bW
      refine ae ?_
      exact ⟨aA,az,aB,ax,aD,aC,aw,aJ,aN,aR,fun _=>rfl,au,aH,aU,aX,aW,aY,aV,aZ,a6,bd,be,ba,bf,bh,hI⟩
     ·intro D aS o3 gE kK dd de cO dq dr dn di dj dk dp dl dt cS cI cU cQ cP cR cT ey eA eC eq ez er w_
      rintro ⟨aA,az,aB,ax,aD,aC,aw,aJ,aN,aR,aq,au,aH,aU,aX,aW,aY,aV,aZ,a6,bd,be,ba,bf,bh,hI⟩
      obtain rfl:=aR o3
      obtain rfl:=aq gE
      obtain rfl:=aw kK
      refine ae ?_; refine bR (by omega) ?_
      exact ⟨aA,az,aB,ax,aD,aC,aw,aJ,aN,aR,aq,fun _=>rfl,aH,aU,aX,aW,aY,aV,aZ,a6,bd,be,ba,bf,bh,hI⟩
     ·intro D aS eo fT Ec Jz dd de cO dq dr dn di dj dk dp dl dt cS cI cU cQ cP cR cT ey eA eC eq ez er w_
      rintro ⟨aA,az,aB,ax,aD,aC,aw,aJ,aN,aR,aq,au,aH,aU,aX,aW,aY,aV,aZ,a6,bd,be,ba,bf,bh,hI⟩
      obtain rfl:=aJ eo
      obtain rfl:=aN fT
      obtain rfl:=au Ec
      obtain rfl:=aw Jz
      refine ae ?_; refine x1 bk (by omega) (by omega) ?_
      exact ⟨aA,az,aB,ax,aD,aC,aw,aJ,aN,aR,aq,au,fun _=>rfl,aU,aX,aW,aY,aV,aZ,a6,bd,be,ba,bf,bh,hI⟩
     ·intro D aS bW dd de cO dq dr dn di dj dk dp dl dt cS cI cU cQ cP cR cT ey eA eC eq ez er w_
      rintro ⟨aA,az,aB,ax,aD,aC,aw,aJ,aN,aR,aq,au,aH,aU,aX,aW,aY,aV,aZ,a6,bd,be,ba,bf,bh,hI⟩
      obtain rfl:=aw bW
      refine ae ?_
      exact ⟨aA,az,aB,ax,aD,aC,aw,aJ,aN,aR,aq,au,aH,fun _=>rfl,aX,aW,aY,aV,aZ,a6,bd,be,ba,bf,bh,hI⟩
     ·intro D aS bW dd de cO dq dr dn di dj dk dp dl dt cS cI cU cQ cP cR cT ey eA eC eq ez er w_
      rintro ⟨aA,az,aB,ax,aD,aC,aw,aJ,aN,aR,aq,au,aH,aU,aX,aW,aY,aV,aZ,a6,bd,be,ba,bf,bh,hI⟩
      obtain rfl:=aw bW
      refine ae ?_
      exact ⟨aA,az,aB,ax,aD,aC,aw,aJ,aN,aR,aq,au,aH,aU,fun _=>rfl,aW,aY,aV,aZ,a6,bd,be,ba,bf,bh,hI⟩
     ·intro D aS tm Ez kK dd de cO dq dr dn di dj dk dp dl dt cS cI cU cQ cP cR cT ey eA eC eq ez er w_
      rintro ⟨aA,az,aB,ax,aD,aC,aw,aJ,aN,aR,aq,au,aH,aU,aX,aW,aY,aV,aZ,a6,bd,be,ba,bf,bh,hI⟩
      obtain rfl:=aU tm
      obtain rfl:=aX Ez
      obtain rfl:=aw kK
      refine ae ?_; refine bq cH hj ?_
      exact ⟨aA,az,aB,ax,aD,aC,aw,aJ,aN,aR,aq,au,aH,aU,aX,fun _=>rfl,aY,aV,aZ,a6,bd,be,ba,bf,bh,hI⟩
     ·intro D aS xM iL dd de cO dq dr dn di dj dk dp dl dt cS cI cU cQ cP cR cT ey eA eC eq ez er w_
      rintro ⟨aA,az,aB,ax,aD,aC,aw,aJ,aN,aR,aq,au,aH,aU,aX,aW,aY,aV,aZ,a6,bd,be,ba,bf,bh,hI⟩
      obtain rfl:=aW xM
      obtain rfl:=aw iL
      refine ae ?_; refine eE bz ((hI.cellS hS).trans hcx) ?_
      exact ⟨aA,az,aB,ax,aD,aC,aw,aJ,aN,aR,aq,au,aH,aU,aX,aW,fun _=>rfl,aV,aZ,a6,bd,be,ba,bf,bh,hI⟩
     ·intro D aS tp uX kK dd de cO dq dr dn di dj dk dp dl dt cS cI cU cQ cP cR cT ey eA eC eq ez er w_
      rintro ⟨aA,az,aB,ax,aD,aC,aw,aJ,aN,aR,aq,au,aH,aU,aX,aW,aY,aV,aZ,a6,bd,be,ba,bf,bh,hI⟩
      obtain rfl:=aH tp
      obtain rfl:=aY uX
      obtain rfl:=aw kK
      refine ae ?_; refine cK ?_; rw [hq]
      exact ⟨aA,az,aB,ax,aD,aC,aw,aJ,aN,aR,aq,au,aH,aU,aX,aW,aY,fun _=>rfl,aZ,a6,bd,be,ba,bf,bh,hI⟩
     ·intro D aS bW DT dd de cO dq dr dn di dj dk dp dl dt cS cI cU cQ cP cR cT ey eA eC eq ez er w_
      rintro ⟨aA,az,aB,ax,aD,aC,aw,aJ,aN,aR,aq,au,aH,aU,aX,aW,aY,aV,aZ,a6,bd,be,ba,bf,bh,hI⟩
      obtain rfl:=aw bW
      obtain rfl:=aV DT
      refine al ?_
      exact ⟨aA,az,aB,ax,aD,aC,aw,aJ,aN,aR,aq,au,aH,aU,aX,aW,aY,aV,fun _=>rfl,a6,bd,be,ba,bf,bh,hI⟩
     ·intro D aS zu iL dd de cO dq dr dn di dj dk dp dl dt cS cI cU cQ cP cR cT ey eA eC eq ez er w_
      rintro ⟨aA,az,aB,ax,aD,aC,aw,aJ,aN,aR,aq,au,aH,aU,aX,aW,aY,aV,aZ,a6,bd,be,ba,bf,bh,hI⟩
      obtain rfl:=aZ zu
      exact ⟨aA,az,aB,ax,aD,aC,aw,aJ,aN,aR,aq,au,aH,aU,aX,aW,aY,aV,aZ,fun _=>rfl,bd,be,ba,bf,bh,hI⟩
     ·intro D aS iq dd de cO dq dr dn di dj dk dp dl dt cS cI cU cQ cP cR cT ey eA eC eq ez er w_
      rintro ⟨aA,az,aB,ax,aD,aC,aw,aJ,aN,aR,aq,au,aH,aU,aX,aW,aY,aV,aZ,a6,bd,be,ba,bf,bh,hI⟩
      obtain rfl:=a6 iq
      refine ae ?_
      exact ⟨aA,az,aB,ax,aD,aC,aw,aJ,aN,aR,aq,au,aH,aU,aX,aW,aY,aV,aZ,a6,fun _=>rfl,be,ba,bf,bh,hI⟩
     ·intro D aS iq dd de cO dq dr dn di dj dk dp dl dt cS cI cU cQ cP cR cT ey eA eC eq ez er w_
      rintro ⟨aA,az,aB,ax,aD,aC,aw,aJ,aN,aR,aq,au,aH,aU,aX,aW,aY,aV,aZ,a6,bd,be,ba,bf,bh,hI⟩
      obtain rfl:=a6 iq
      refine ae ?_
      exact ⟨aA,az,aB,ax,aD,aC,aw,aJ,aN,aR,aq,au,aH,aU,aX,aW,aY,aV,aZ,a6,bd,fun _=>rfl,ba,bf,bh,hI⟩
     ·intro D aS y5 DO dd de cO dq dr dn di dj dk dp dl dt cS cI cU cQ cP cR cT ey eA eC eq ez er w_
      rintro ⟨aA,az,aB,ax,aD,aC,aw,aJ,aN,aR,aq,au,aH,aU,aX,aW,aY,aV,aZ,a6,bd,be,ba,bf,bh,hI⟩
      obtain rfl:=be y5
      obtain rfl:=a6 DO
      refine ae ?_; refine fE bk ?_
      exact ⟨aA,az,aB,ax,aD,aC,aw,aJ,aN,aR,aq,au,aH,aU,aX,aW,aY,aV,aZ,a6,bd,be,fun _=>rfl,bf,bh,hI⟩
     ·intro D aS yy EI Fc dd de cO dq dr dn di dj dk dp dl dt cS cI cU cQ cP cR cT ey eA eC eq ez er w_
      rintro ⟨aA,az,aB,ax,aD,aC,aw,aJ,aN,aR,aq,au,aH,aU,aX,aW,aY,aV,aZ,a6,bd,be,ba,bf,bh,hI⟩
      obtain rfl:=bd yy
      obtain rfl:=ba EI
      obtain rfl:=a6 Fc
      refine ae ?_; refine ff ?_
      exact ⟨aA,az,aB,ax,aD,aC,aw,aJ,aN,aR,aq,au,aH,aU,aX,aW,aY,aV,aZ,a6,bd,be,ba,fun _=>rfl,bh,hI⟩
     ·intro D aS iq Dr dd de cO dq dr dn di dj dk dp dl dt cS cI cU cQ cP cR cT ey eA eC eq ez er w_
      rintro ⟨aA,az,aB,ax,aD,aC,aw,aJ,aN,aR,aq,au,aH,aU,aX,aW,aY,aV,aZ,a6,bd,be,ba,bf,bh,hI⟩
      obtain rfl:=a6 iq
      obtain rfl:=bf Dr
      refine al ?_
      exact ⟨aA,az,aB,ax,aD,aC,aw,aJ,aN,aR,aq,au,aH,aU,aX,aW,aY,aV,aZ,a6,bd,be,ba,bf,fun _=>rfl,hI⟩
     intro D Gx F2 Ht FB GB F3 C9 Ce CE BP Cp CM jV gw fg jA g7 gc fj ft fL fX fM fP fY dd de cO dq dr dn di dj dk dp dl dt cS cI cU cQ cP cR cT ey eA eC eq ez er w_
     rintro ⟨aA,az,aB,ax,aD,aC,aw,aJ,aN,aR,aq,au,aH,aU,aX,aW,aY,aV,aZ,a6,bd,be,ba,bf,bh,hI⟩
     obtain rfl:=bh Gx
     obtain rfl:=bf F2
     obtain rfl:=ba Ht
     obtain rfl:=be FB
     obtain rfl:=bd GB
     obtain rfl:=a6 F3
     obtain rfl:=aZ C9
     obtain rfl:=aV Ce
     obtain rfl:=aY CE
     obtain rfl:=aW BP
     obtain rfl:=aX Cp
     obtain rfl:=aU CM
     obtain rfl:=aH jV
     obtain rfl:=au gw
     obtain rfl:=aq fg
     obtain rfl:=aR jA
     obtain rfl:=aN g7
     obtain rfl:=aJ gc
     obtain rfl:=aw fj
     obtain rfl:=aC ft
     obtain rfl:=aD fL
     obtain rfl:=ax fX
     obtain rfl:=aB fM
     obtain rfl:=az fP
     obtain rfl:=aA fY
     clear aA az aB ax aD aC aw aJ aN aR aq au aH aU aX aW aY aV aZ a6 bd be ba bf bh
     have hcut:cut s i (i+x.size)=bs x:=by rw [<- Bf (cut s i (i+x.size)),hq']
     refine bF (fun hb=>?_) (fun hb=>?_)
     ·refine bq cH hj ?_
      refine eE bz ((hI.cellS hS).trans hcx) ?_
      refine ⟨bs x,rfl,by rw [<- hcut,CQ hlen]; omega,?_,hI⟩
      rw [if_pos ⟨decide_eq_true hlen,hcut,by omega⟩] at hbest
      exact hbest
     ·refine ⟨best,rfl,hbl,?_,hI⟩
      rw [if_neg] at hbest
      ·exact hbest
      ·rintro ⟨_,_,h3⟩
       omega
   ·skip
    refine ⟨fun D dd de cO dq dr dn di dj dk dp dl dt cS cI cU cQ cP cR cT ey eA eC eq ez er w_=>(D 0=true->er=.int .i64 (i:Int))/\(D 1=true->ez=.int .i64 (x.size:Int))/\(D 2=true->eq=.int .i64 ((i+x.size:Nat):Int))/\(D 3=true->eC=.string (st s))/\(D 4=true->eA=.int .i64 (s.length:Int))/\(D 5=true->ey=.bool false)/\(D 6=true->cT=.bool false)/\(D 7=true->cR=undef)/\(D 8=true->cP=undef)/\(D 9=true->cQ=undef)/\(D 10=true->cU=undef)/\(D 11=true->cI=undef)/\(D 12=true->cS=undef)/\(D 13=true->dt=undef)/\(D 14=true->dl=undef)/\(D 15=true->dp=undef)/\(D 16=true->dk=undef)/\(D 17=true->dj=undef)/\(D 18=true->di=.bool false)/\(D 19=true->dn=.bool false)/\(D 20=true->dr=undef)/\(D 21=true->dq=undef)/\(D 22=true->cO=undef)/\(D 23=true->de=undef)/\(D 24=true->dd=.bool false)/\Inv w [] [] S1 w_,⟨af,af,af,af,af,af,af,af,af,af,af,af,af,af,af,af,af,af,af,af,af,af,af,af,af,hI.draw⟩,⟨?_,?_,?_,?_,?_,?_,?_,?_,?_,?_,?_,?_,?_,?_,?_,?_,?_,?_,?_,?_,?_,?_,?_,?_,?_,trivial⟩,?_⟩
    ·intro D aS  dd de cO dq dr dn di dj dk dp dl dt cS cI cU cQ cP cR cT ey eA eC eq ez er w_
     rintro ⟨aA,az,aB,ax,aD,aC,aw,aJ,aN,aR,aq,au,aH,aU,aX,aW,aY,aV,aZ,a6,bd,be,ba,bf,bh,hI⟩
     exact ⟨fun _=>rfl,az,aB,ax,aD,aC,aw,aJ,aN,aR,aq,au,aH,aU,aX,aW,aY,aV,aZ,a6,bd,be,ba,bf,bh,hI⟩
    ·intro D aS  dd de cO dq dr dn di dj dk dp dl dt cS cI cU cQ cP cR cT ey eA eC eq ez er w_
     rintro ⟨aA,az,aB,ax,aD,aC,aw,aJ,aN,aR,aq,au,aH,aU,aX,aW,aY,aV,aZ,a6,bd,be,ba,bf,bh,hI⟩
     exact ⟨aA,fun _=>rfl,aB,ax,aD,aC,aw,aJ,aN,aR,aq,au,aH,aU,aX,aW,aY,aV,aZ,a6,bd,be,ba,bf,bh,hI⟩
    ·intro D aS cA iz dd de cO dq dr dn di dj dk dp dl dt cS cI cU cQ cP cR cT ey eA eC eq ez er w_
     rintro ⟨aA,az,aB,ax,aD,aC,aw,aJ,aN,aR,aq,au,aH,aU,aX,aW,aY,aV,aZ,a6,bd,be,ba,bf,bh,hI⟩
     obtain rfl:=aA cA
     obtain rfl:=az iz
     refine bR (by omega) ?_
     exact ⟨aA,az,fun _=>rfl,ax,aD,aC,aw,aJ,aN,aR,aq,au,aH,aU,aX,aW,aY,aV,aZ,a6,bd,be,ba,bf,bh,hI⟩
    ·intro D aS  dd de cO dq dr dn di dj dk dp dl dt cS cI cU cQ cP cR cT ey eA eC eq ez er w_
     rintro ⟨aA,az,aB,ax,aD,aC,aw,aJ,aN,aR,aq,au,aH,aU,aX,aW,aY,aV,aZ,a6,bd,be,ba,bf,bh,hI⟩
     exact ⟨aA,az,aB,fun _=>rfl,aD,aC,aw,aJ,aN,aR,aq,au,aH,aU,aX,aW,aY,aV,aZ,a6,bd,be,ba,bf,bh,hI⟩
    ·intro D aS dh dd de cO dq dr dn di dj dk dp dl dt cS cI cU cQ cP cR cT ey eA eC eq ez er w_
     rintro ⟨aA,az,aB,ax,aD,aC,aw,aJ,aN,aR,aq,au,aH,aU,aX,aW,aY,aV,aZ,a6,bd,be,ba,bf,bh,hI⟩
     obtain rfl:=ax dh
     refine fE bk ?_
     exact ⟨aA,az,aB,ax,fun _=>rfl,aC,aw,aJ,aN,aR,aq,au,aH,aU,aX,aW,aY,aV,aZ,a6,bd,be,ba,bf,bh,hI⟩
    ·intro D aS cM eD dd de cO dq dr dn di dj dk dp dl dt cS cI cU cQ cP cR cT ey eA eC eq ez er w_
     rintro ⟨aA,az,aB,ax,aD,aC,aw,aJ,aN,aR,aq,au,aH,aU,aX,aW,aY,aV,aZ,a6,bd,be,ba,bf,bh,hI⟩
     obtain rfl:=aB cM
     obtain rfl:=aD eD
     refine Jp (by omega) ?_
     exact ⟨aA,az,aB,ax,aD,fun _=>rfl,aw,aJ,aN,aR,aq,au,aH,aU,aX,aW,aY,aV,aZ,a6,bd,be,ba,bf,bh,hI⟩
    ·intro D aS dT dd de cO dq dr dn di dj dk dp dl dt cS cI cU cQ cP cR cT ey eA eC eq ez er w_
     rintro ⟨aA,az,aB,ax,aD,aC,aw,aJ,aN,aR,aq,au,aH,aU,aX,aW,aY,aV,aZ,a6,bd,be,ba,bf,bh,hI⟩
     obtain rfl:=aC dT
     exact ⟨aA,az,aB,ax,aD,aC,fun _=>rfl,aJ,aN,aR,aq,au,aH,aU,aX,aW,aY,aV,aZ,a6,bd,be,ba,bf,bh,hI⟩
    ·intro D aS bW dd de cO dq dr dn di dj dk dp dl dt cS cI cU cQ cP cR cT ey eA eC eq ez er w_
     rintro ⟨aA,az,aB,ax,aD,aC,aw,aJ,aN,aR,aq,au,aH,aU,aX,aW,aY,aV,aZ,a6,bd,be,ba,bf,bh,hI⟩
     obtain rfl:=aw bW
     refine ah (c:=false) (b:=true) (by decide) ?_
     exact ⟨aA,az,aB,ax,aD,aC,aw,fun _=>rfl,aN,aR,aq,au,aH,aU,aX,aW,aY,aV,aZ,a6,bd,be,ba,bf,bh,hI⟩
    ·intro D aS bW dd de cO dq dr dn di dj dk dp dl dt cS cI cU cQ cP cR cT ey eA eC eq ez er w_
     rintro ⟨aA,az,aB,ax,aD,aC,aw,aJ,aN,aR,aq,au,aH,aU,aX,aW,aY,aV,aZ,a6,bd,be,ba,bf,bh,hI⟩
     obtain rfl:=aw bW
     refine ah (c:=false) (b:=true) (by decide) ?_
     exact ⟨aA,az,aB,ax,aD,aC,aw,aJ,fun _=>rfl,aR,aq,au,aH,aU,aX,aW,aY,aV,aZ,a6,bd,be,ba,bf,bh,hI⟩
    ·intro D aS bW dd de cO dq dr dn di dj dk dp dl dt cS cI cU cQ cP cR cT ey eA eC eq ez er w_
     rintro ⟨aA,az,aB,ax,aD,aC,aw,aJ,aN,aR,aq,au,aH,aU,aX,aW,aY,aV,aZ,a6,bd,be,ba,bf,bh,hI⟩
     obtain rfl:=aw bW
     refine ah (c:=false) (b:=true) (by decide) ?_
     exact ⟨aA,az,aB,ax,aD,aC,aw,aJ,aN,fun _=>rfl,aq,au,aH,aU,aX,aW,aY,aV,aZ,a6,bd,be,ba,bf,bh,hI⟩
    ·intro D aS bW dd de cO dq dr dn di dj dk dp dl dt cS cI cU cQ cP cR cT ey eA eC eq ez er w_
     rintro ⟨aA,az,aB,ax,aD,aC,aw,aJ,aN,aR,aq,au,aH,aU,aX,aW,aY,aV,aZ,a6,bd,be,ba,bf,bh,hI⟩
     obtain rfl:=aw bW
     refine ah (c:=false) (b:=true) (by decide) ?_
     exact ⟨aA,az,aB,ax,aD,aC,aw,aJ,aN,aR,fun _=>rfl,au,aH,aU,aX,aW,aY,aV,aZ,a6,bd,be,ba,bf,bh,hI⟩
    ·intro D aS o3 gE kK dd de cO dq dr dn di dj dk dp dl dt cS cI cU cQ cP cR cT ey eA eC eq ez er w_
     rintro ⟨aA,az,aB,ax,aD,aC,aw,aJ,aN,aR,aq,au,aH,aU,aX,aW,aY,aV,aZ,a6,bd,be,ba,bf,bh,hI⟩
     obtain rfl:=aR o3
     obtain rfl:=aq gE
     obtain rfl:=aw kK
     refine ah (c:=false) (b:=true) (by decide) ?_
     exact ⟨aA,az,aB,ax,aD,aC,aw,aJ,aN,aR,aq,fun _=>rfl,aH,aU,aX,aW,aY,aV,aZ,a6,bd,be,ba,bf,bh,hI⟩
    ·intro D aS eo fT Ec Jz dd de cO dq dr dn di dj dk dp dl dt cS cI cU cQ cP cR cT ey eA eC eq ez er w_
     rintro ⟨aA,az,aB,ax,aD,aC,aw,aJ,aN,aR,aq,au,aH,aU,aX,aW,aY,aV,aZ,a6,bd,be,ba,bf,bh,hI⟩
     obtain rfl:=aJ eo
     obtain rfl:=aN fT
     obtain rfl:=au Ec
     obtain rfl:=aw Jz
     refine ah (c:=false) (b:=true) (by decide) ?_
     exact ⟨aA,az,aB,ax,aD,aC,aw,aJ,aN,aR,aq,au,fun _=>rfl,aU,aX,aW,aY,aV,aZ,a6,bd,be,ba,bf,bh,hI⟩
    ·intro D aS bW dd de cO dq dr dn di dj dk dp dl dt cS cI cU cQ cP cR cT ey eA eC eq ez er w_
     rintro ⟨aA,az,aB,ax,aD,aC,aw,aJ,aN,aR,aq,au,aH,aU,aX,aW,aY,aV,aZ,a6,bd,be,ba,bf,bh,hI⟩
     obtain rfl:=aw bW
     refine ah (c:=false) (b:=true) (by decide) ?_
     exact ⟨aA,az,aB,ax,aD,aC,aw,aJ,aN,aR,aq,au,aH,fun _=>rfl,aX,aW,aY,aV,aZ,a6,bd,be,ba,bf,bh,hI⟩
    ·intro D aS bW dd de cO dq dr dn di dj dk dp dl dt cS cI cU cQ cP cR cT ey eA eC eq ez er w_
     rintro ⟨aA,az,aB,ax,aD,aC,aw,aJ,aN,aR,aq,au,aH,aU,aX,aW,aY,aV,aZ,a6,bd,be,ba,bf,bh,hI⟩
     obtain rfl:=aw bW
     refine ah (c:=false) (b:=true) (by decide) ?_
     exact ⟨aA,az,aB,ax,aD,aC,aw,aJ,aN,aR,aq,au,aH,aU,fun _=>rfl,aW,aY,aV,aZ,a6,bd,be,ba,bf,bh,hI⟩
    ·intro D aS tm Ez kK dd de cO dq dr dn di dj dk dp dl dt cS cI cU cQ cP cR cT ey eA eC eq ez er w_
     rintro ⟨aA,az,aB,ax,aD,aC,aw,aJ,aN,aR,aq,au,aH,aU,aX,aW,aY,aV,aZ,a6,bd,be,ba,bf,bh,hI⟩
     obtain rfl:=aU tm
     obtain rfl:=aX Ez
     obtain rfl:=aw kK
     refine ah (c:=false) (b:=true) (by decide) ?_
     exact ⟨aA,az,aB,ax,aD,aC,aw,aJ,aN,aR,aq,au,aH,aU,aX,fun _=>rfl,aY,aV,aZ,a6,bd,be,ba,bf,bh,hI⟩
    ·intro D aS xM iL dd de cO dq dr dn di dj dk dp dl dt cS cI cU cQ cP cR cT ey eA eC eq ez er w_
     rintro ⟨aA,az,aB,ax,aD,aC,aw,aJ,aN,aR,aq,au,aH,aU,aX,aW,aY,aV,aZ,a6,bd,be,ba,bf,bh,hI⟩
     obtain rfl:=aW xM
     obtain rfl:=aw iL
     refine ah (c:=false) (b:=true) (by decide) ?_
     exact ⟨aA,az,aB,ax,aD,aC,aw,aJ,aN,aR,aq,au,aH,aU,aX,aW,fun _=>rfl,aV,aZ,a6,bd,be,ba,bf,bh,hI⟩
    ·intro D aS tp uX kK dd de cO dq dr dn di dj dk dp dl dt cS cI cU cQ cP cR cT ey eA eC eq ez er w_
     rintro ⟨aA,az,aB,ax,aD,aC,aw,aJ,aN,aR,aq,au,aH,aU,aX,aW,aY,aV,aZ,a6,bd,be,ba,bf,bh,hI⟩
     obtain rfl:=aH tp
     obtain rfl:=aY uX
     obtain rfl:=aw kK
     refine ah (c:=false) (b:=true) (by decide) ?_
     exact ⟨aA,az,aB,ax,aD,aC,aw,aJ,aN,aR,aq,au,aH,aU,aX,aW,aY,fun _=>rfl,aZ,a6,bd,be,ba,bf,bh,hI⟩
    ·intro D aS bW DT dd de cO dq dr dn di dj dk dp dl dt cS cI cU cQ cP cR cT ey eA eC eq ez er w_
     rintro ⟨aA,az,aB,ax,aD,aC,aw,aJ,aN,aR,aq,au,aH,aU,aX,aW,aY,aV,aZ,a6,bd,be,ba,bf,bh,hI⟩
     obtain rfl:=aw bW
     obtain rfl:=aV DT
     refine aj ?_
     exact ⟨aA,az,aB,ax,aD,aC,aw,aJ,aN,aR,aq,au,aH,aU,aX,aW,aY,aV,fun _=>rfl,a6,bd,be,ba,bf,bh,hI⟩
    ·intro D aS zu iL dd de cO dq dr dn di dj dk dp dl dt cS cI cU cQ cP cR cT ey eA eC eq ez er w_
     rintro ⟨aA,az,aB,ax,aD,aC,aw,aJ,aN,aR,aq,au,aH,aU,aX,aW,aY,aV,aZ,a6,bd,be,ba,bf,bh,hI⟩
     obtain rfl:=aZ zu
     exact ⟨aA,az,aB,ax,aD,aC,aw,aJ,aN,aR,aq,au,aH,aU,aX,aW,aY,aV,aZ,fun _=>rfl,bd,be,ba,bf,bh,hI⟩
    ·intro D aS iq dd de cO dq dr dn di dj dk dp dl dt cS cI cU cQ cP cR cT ey eA eC eq ez er w_
     rintro ⟨aA,az,aB,ax,aD,aC,aw,aJ,aN,aR,aq,au,aH,aU,aX,aW,aY,aV,aZ,a6,bd,be,ba,bf,bh,hI⟩
     obtain rfl:=a6 iq
     refine ah (c:=false) (b:=true) (by decide) ?_
     exact ⟨aA,az,aB,ax,aD,aC,aw,aJ,aN,aR,aq,au,aH,aU,aX,aW,aY,aV,aZ,a6,fun _=>rfl,be,ba,bf,bh,hI⟩
    ·intro D aS iq dd de cO dq dr dn di dj dk dp dl dt cS cI cU cQ cP cR cT ey eA eC eq ez er w_
     rintro ⟨aA,az,aB,ax,aD,aC,aw,aJ,aN,aR,aq,au,aH,aU,aX,aW,aY,aV,aZ,a6,bd,be,ba,bf,bh,hI⟩
     obtain rfl:=a6 iq
     refine ah (c:=false) (b:=true) (by decide) ?_
     exact ⟨aA,az,aB,ax,aD,aC,aw,aJ,aN,aR,aq,au,aH,aU,aX,aW,aY,aV,aZ,a6,bd,fun _=>rfl,ba,bf,bh,hI⟩
    ·intro D aS y5 DO dd de cO dq dr dn di dj dk dp dl dt cS cI cU cQ cP cR cT ey eA eC eq ez er w_
     rintro ⟨aA,az,aB,ax,aD,aC,aw,aJ,aN,aR,aq,au,aH,aU,aX,aW,aY,aV,aZ,a6,bd,be,ba,bf,bh,hI⟩
     obtain rfl:=be y5
     obtain rfl:=a6 DO
     refine ah (c:=false) (b:=true) (by decide) ?_
     exact ⟨aA,az,aB,ax,aD,aC,aw,aJ,aN,aR,aq,au,aH,aU,aX,aW,aY,aV,aZ,a6,bd,be,fun _=>rfl,bf,bh,hI⟩
    ·intro D aS yy EI Fc dd de cO dq dr dn di dj dk dp dl dt cS cI cU cQ cP cR cT ey eA eC eq ez er w_
     rintro ⟨aA,az,aB,ax,aD,aC,aw,aJ,aN,aR,aq,au,aH,aU,aX,aW,aY,aV,aZ,a6,bd,be,ba,bf,bh,hI⟩
     obtain rfl:=bd yy
     obtain rfl:=ba EI
     obtain rfl:=a6 Fc
     refine ah (c:=false) (b:=true) (by decide) ?_
     exact ⟨aA,az,aB,ax,aD,aC,aw,aJ,aN,aR,aq,au,aH,aU,aX,aW,aY,aV,aZ,a6,bd,be,ba,fun _=>rfl,bh,hI⟩
    ·intro D aS iq Dr dd de cO dq dr dn di dj dk dp dl dt cS cI cU cQ cP cR cT ey eA eC eq ez er w_
     rintro ⟨aA,az,aB,ax,aD,aC,aw,aJ,aN,aR,aq,au,aH,aU,aX,aW,aY,aV,aZ,a6,bd,be,ba,bf,bh,hI⟩
     obtain rfl:=a6 iq
     obtain rfl:=bf Dr
     refine aj ?_
     exact ⟨aA,az,aB,ax,aD,aC,aw,aJ,aN,aR,aq,au,aH,aU,aX,aW,aY,aV,aZ,a6,bd,be,ba,bf,fun _=>rfl,hI⟩
    intro D Gx F2 Ht FB GB F3 C9 Ce CE BP Cp CM jV gw fg jA g7 gc fj ft fL fX fM fP fY dd de cO dq dr dn di dj dk dp dl dt cS cI cU cQ cP cR cT ey eA eC eq ez er w_
    rintro ⟨aA,az,aB,ax,aD,aC,aw,aJ,aN,aR,aq,au,aH,aU,aX,aW,aY,aV,aZ,a6,bd,be,ba,bf,bh,hI⟩
    obtain rfl:=bh Gx
    obtain rfl:=bf F2
    obtain rfl:=ba Ht
    obtain rfl:=be FB
    obtain rfl:=bd GB
    obtain rfl:=a6 F3
    obtain rfl:=aZ C9
    obtain rfl:=aV Ce
    obtain rfl:=aY CE
    obtain rfl:=aW BP
    obtain rfl:=aX Cp
    obtain rfl:=aU CM
    obtain rfl:=aH jV
    obtain rfl:=au gw
    obtain rfl:=aq fg
    obtain rfl:=aR jA
    obtain rfl:=aN g7
    obtain rfl:=aJ gc
    obtain rfl:=aw fj
    obtain rfl:=aC ft
    obtain rfl:=aD fL
    obtain rfl:=ax fX
    obtain rfl:=aB fM
    obtain rfl:=az fP
    obtain rfl:=aA fY
    clear aA az aB ax aD aC aw aJ aN aR aq au aH aU aX aW aY aV aZ a6 bd be ba bf bh
    refine a7 (fun hb=>by cases hb) (fun _=>?_)
    refine ⟨best,rfl,hbl,?_,hI⟩
    rw [if_neg] at hbest
    ·exact hbest
    ·rintro ⟨h1,_⟩
     rw [decide_eq_true_eq] at h1
     exact hlen h1
  intro t7 _ _ _ _ _ _ _ _ _ _ _ _ _ _ _ _ _ _ _ _ _ _ _ _ _ _ _ _ _ _ _ _ _ _ _ w'
  rintro ⟨best',rfl,hbl',hb',hI⟩
  refine bR (by omega) ?_
  exact ⟨⟨j+1,best',hj,rfl,rfl,hbl',hb',hI⟩,by simp [intOf]; omega⟩
 ·have:j=signs.length:=by omega
  subst this
  rw [List.drop_length,iB] at hbest
  rw [<- hbest] at hnm
  refine cK ?_
  refine bF (fun hb=>?_) (fun hb=>?_)
  ·have:best=[]:=by rw [<- Bf best,hb]
   exact ph hI hle (by rw [hnm,if_pos this]; rfl)
  ·have:¬ best=[]:=fun h=>hb (by rw [h])
   refine fE bk ?_
   refine bR (by omega) ?_
   exact ph hI hle (by rw [hnm,if_neg this]; rfl)
end
theorem tU (s:Bs) (i:Nat):∀ (l:List ByteArray) (b:Bs),(∀ x∈l,x.size<=3)->b.length<=3->i+b.length<=s.length->i+(iB s i l b).length<=s.length/\(iB s i l b).length<=3
 | [],b,_,h2,h3=>⟨h3,h2⟩
 | x::l,b,h1,h2,h3=>by
  rw [iB]
  have hx:(bs x).length=x.size:=Array.length_toList
  split
  ·rename_i h
   exact tU s i l _ (fun y hy=>h1 y (List.mem_cons_of_mem _ hy)) (by rw [hx]; exact h1 x (List.mem_cons_self ..)) (by rw [hx]; exact of_decide_eq_true h.1)
  ·exact tU s i l _ (fun y hy=>h1 y (List.mem_cons_of_mem _ hy)) h2 h3
theorem HZ (s:Bs):∀ (n e:Nat),e<=wm s n e/\wm s n e<=e+n
 | 0,e=>by simp [wm]
 | n+1,e=>by
  rw [wm]
  split
  ·have:=HZ s n (e+1); omega
  ·omega
theorem rA {s:Bs} {i:Nat} {n:Bs} {e:Nat} (hi:i<s.length) (h:rL s i=some (n,e)):i<e/\e<=s.length/\n.length<=6/\n≠[]:=by
 have hl:=HZ s (s.length - i) i
 have hb:=tU s i signs [] DV (by simp) (by simpa using Nat.le_of_lt hi)
 unfold rL at h
 simp only [] at h
 split at h
 ·cases h
 ·split at h
  ·simp only [Option.some.injEq,Prod.mk.injEq] at h
   obtain ⟨rfl,rfl⟩:=h
   rename_i h1 h2
   have hc:=CQ (s:=s) (a:=i) (b:=wm s (s.length - i) i) (by omega)
   refine ⟨h2,by omega,by omega,fun h=>?_⟩
   rw [h] at hc
   simp at hc
   omega
  ·split at h
   ·cases h
   ·simp only [Option.some.injEq,Prod.mk.injEq] at h
    obtain ⟨rfl,rfl⟩:=h
    rename_i h3
    have:0<(iB s i signs []).length:=by
     cases he:iB s i signs [] with
     | nil=>exact absurd he h3
     | cons a l=>simp
    exact ⟨by omega,by omega,by omega,h3⟩
def opV (o:Option (Bs × Nat)) (i:Nat):Value:=match o with
 | none=>.tuple #[.string ⟨#[]⟩,.int .i64 (i:Int)]
 | some (n,e)=>.tuple #[.string (st n),.int .i64 (e:Int)]
theorem KF {s:Bs} {i:Nat} {n:Bs} {e:Nat} (h:opF s i=some (n,e)):i<e/\e<=s.length/\n.length<=6/\n≠[]:=by
 unfold opF at h
 obtain ⟨fr,hfr⟩:∃ fr,fr=if sgn s i 32=true then i+1 else i:=⟨_,rfl⟩
 simp only [<- hfr] at h
 have hfi:i<=fr:=by rw [hfr]; split <;> omega
 split at h
 ·cases h
 rename_i hlt
 split at h
 ·cases h
 rename_i nm nx hnm
 obtain ⟨h1,h2,h3,h4⟩:=rA (by omega) hnm
 split at h
 ·cases h
 rename_i hc
 simp only [not_or,not_and,Bool.not_eq_false] at hc
 simp only [Option.some.injEq,Prod.mk.injEq] at h
 obtain ⟨rfl,rfl⟩:=h
 refine ⟨by split <;> omega,?_,h3,h4⟩
 split
 ·rename_i hw
  have:=ic (hc.2.2 hw)
  omega
 ·exact h2
section
attribute [local irreducible] Run CondV ai a4
theorem He {s:Bs} {i:Nat} (hs:s.length<=100000) (hi:i<=s.length) (S:ay):Pure Tryz.prog KA [.string (st s),.int .i64 (i:Int)] S (opV (opF s i) i):=by
 intro w hI
 refine C0 ?_
 unfold Bm
 obtain ⟨fr,hfr⟩:∃ fr,fr=if sgn s i 32=true then i+1 else i:=⟨_,rfl⟩
 have hfi:i<=fr/\fr<=i+1:=by rw [hfr]; split <;> omega
 obtain ⟨r,hr⟩:∃ r,r=opF s i:=⟨_,rfl⟩
 rw [<- hr]
 unfold opF at hr
 simp only [<- hfr] at hr
 refine ⟨fun t w'=>t=.int .i64 (fr:Int)/\Inv w [] [] S w',?_,?_⟩
 ·refine Run.callPure dv du hI (cX s i 32 S) fun w' hI=>?_
  refine a7 (fun hb=>?_) (fun hb=>?_)
  ·refine bR (by omega) ?_
   rw [if_pos hb] at hfr
   exact ⟨by rw [hfr]; congr 1,hI⟩
  ·rw [if_neg (by rw [hb]; decide)] at hfr
   exact ⟨by rw [hfr],hI⟩
 intro t6 _ _ _ _ _ w'
 rintro ⟨rfl,hI⟩
 refine fE bk ?_
 refine kT ?_
 refine bF (fun hb=>?_) (fun hb=>?_)
 ·rw [if_pos (by omega)] at hr
  exact done hI (by rw [hr]; rfl)
 rw [if_neg (by omega)] at hr
 refine Run.callPure vE vz hI (r4 (by omega) hs S) fun w' hI=>?_
 cases hnm:rL s fr with
 | none=>
  rw [hnm] at hr
  simp only [] at hr
  simp only [H3]
  refine aT rfl ?_
  refine aT rfl ?_
  refine ⟨fun t w'=>t=.bool true/\Inv w [] [] S w',?_,?_⟩
  ·refine yE (by omega) ?_
   repeat (first|refine ae ?_|refine ah (by decide) ?_|refine ad ?_|refine al ?_|refine aj ?_)
   exact ⟨rfl,hI⟩
  intro t33 _ _ _ _ _ _ w'
  rintro ⟨rfl,hI⟩
  exact a7 (fun _=>done hI (by rw [hr]; rfl)) (fun hb=>by cases hb)
 | some q=>
  obtain ⟨nm,nx⟩:=q
  rw [hnm] at hr
  simp only [] at hr
  obtain ⟨h1,h2,h3,h4⟩:=rA (by omega) hnm
  simp only [H3]
  refine aT (v:=.string (st nm)) rfl ?_
  refine aT (v:=.int .i64 (nx:Int)) rfl ?_
  refine ⟨fun t w'=>t=.bool (decide (cV (st nm)=0))/\Inv w [] [] S w',?_,?_⟩
  ·refine eU (by omega) ?_
   repeat (first|refine ae ?_|refine ah (by decide) ?_|refine ad ?_|refine al ?_|refine aj ?_)
   refine Run.callPure fG fK hI (ek _ S) fun w' hI=>?_
   refine bO ?_
   repeat (first|refine ae ?_|refine ah (by decide) ?_|refine ad ?_|refine al ?_|refine aj ?_)
   exact ⟨rfl,hI⟩
  intro t33 _ _ _ _ _ _ w'
  rintro ⟨rfl,hI⟩
  refine bF (fun hb=>?_) (fun hb=>?_)
  ·rw [if_pos (.inl hb)] at hr
   exact done hI (by rw [hr]; rfl)
  obtain ⟨word,hword⟩:∃ word,word=(decide (nm=[105,115]) || decide (nm=[109,111,100])):=⟨_,rfl⟩
  rw [<- hword] at hr
  refine ⟨fun t w'=>t=.bool word/\Inv w [] [] S w',?_,?_⟩
  ·refine xN (b:=[105,115]) ?_
   cases h5:decide (nm=[105,115])
   ·repeat (first|refine ae ?_|refine ah (by decide) ?_|refine ad ?_|refine al ?_|refine aj ?_)
    refine xN (b:=[109,111,100]) ?_
    repeat (first|refine ae ?_|refine ah (by decide) ?_|refine ad ?_|refine al ?_|refine aj ?_)
    exact ⟨by rw [hword,h5,Bool.false_or],hI⟩
   ·repeat (first|refine ae ?_|refine ah (by decide) ?_|refine ad ?_|refine al ?_|refine aj ?_)
    exact ⟨by rw [hword,h5,Bool.true_or],hI⟩
  intro t9 _ _ _ _ _ _ w'
  rintro ⟨rfl,hI⟩
  refine ⟨fun t w'=>t=.bool (decide (word≠decide (i<fr)) || (word && !sgn s nx 32))/\Inv w [] [] S w',?_,?_⟩
  ·refine ff ?_
   refine FD oN ?_
   have e1:decide ((i:Int)<(fr:Int))=decide (i<fr):=by rw [decide_eq_decide]; omega
   rw [e1]
   cases h6:decide (i<fr) <;> cases word
   ·repeat (first|refine ae ?_|refine ah (by decide) ?_|refine ad ?_|refine al ?_|refine aj ?_)
    exact ⟨by rfl,hI⟩
   ·repeat (first|refine ae ?_|refine ah (by decide) ?_|refine ad ?_|refine al ?_|refine aj ?_)
    exact ⟨by rfl,hI⟩
   ·repeat (first|refine ae ?_|refine ah (by decide) ?_|refine ad ?_|refine al ?_|refine aj ?_)
    exact ⟨by rfl,hI⟩
   ·repeat (first|refine ae ?_|refine ah (by decide) ?_|refine ad ?_|refine al ?_|refine aj ?_)
    refine Run.callPure dv du hI (cX s nx 32 S) fun w' hI=>?_
    refine cN ?_
    repeat (first|refine ae ?_|refine ah (by decide) ?_|refine ad ?_|refine al ?_|refine aj ?_)
    exact ⟨by simp,hI⟩
  intro t54 _ _ _ _ _ _ _ _ _ _ _ _ _ w'
  rintro ⟨rfl,hI⟩
  refine a7 (fun hb'=>?_) (fun hb'=>?_)
  ·rw [if_pos] at hr
   ·exact done hI (by rw [hr]; rfl)
   ·rw [Bool.or_eq_true,decide_eq_true_eq,Bool.and_eq_true,Bool.not_eq_true'] at hb'
    exact .inr hb'
  ·rw [if_neg] at hr
   ·refine ⟨fun t w'=>t=.int .i64 ((if word=true then nx+1 else nx:Nat):Int)/\Inv w [] [] S w',?_,?_⟩
    ·refine a7 (fun hw=>?_) (fun hw=>?_)
     ·refine bR (by omega) ?_
      exact ⟨by rw [if_pos hw]; congr 1,hI⟩
     ·exact ⟨by rw [if_neg (by rw [hw]; decide)],hI⟩
    intro t8 _ _ _ w'
    rintro ⟨rfl,hI⟩
    exact done hI (by rw [hr]; rfl)
   ·rw [Bool.or_eq_false_iff,decide_eq_false_iff_not] at hb'
    rintro (h|h|⟨h,h'⟩)
    ·exact hb h
    ·exact hb'.1 h
    ·rw [h,h'] at hb'
     simp at hb'
end
end Go.Proofs.YtnmnddpdikghhaaGreat

/- Publishing what a call owns; what is published since. -/
namespace Go.Proofs.YtnmnddpdikghhaaGreat
open Go Go.RowKit
/- a tree of one's own, published -/
theorem Inv.pubExt {w0 w:World} {X:List Nat} {A:List Item} {S:ay} {L:bI} (h:Inv w0 X (A++bw L) S w) :
  ∃ S',Inv w0 X A S' w/\Ext w0.heap.size X S S'/\Ins S' L:=by
 obtain ⟨S',h1,h2,h3,h4⟩:=h.publishAll L
 refine ⟨S',h1,⟨h2,fun b o hb=>?_⟩,h3⟩
 rcases h4 b o hb with h5|h5
 ·exact .inl h5
 ·right
  exact h.new b (by rw [cE]; exact List.mem_append_right _ h5)
theorem Inv.pub1 {w0 w:World} {X:List Nat} {A:List Item} {S:ay} {b:Nat} {o:Obj} (h:Inv w0 X (A++[.blk b o]) S w) :
  ∃ S',Inv w0 X A S' w/\Ext w0.heap.size X S S'/\S' b=some o:=by
 obtain ⟨S',h1,h2,h3⟩:=Inv.pubExt (A:=A) (L:=[(b,o)]) h
 exact ⟨S',h1,h2,h3 _ (List.mem_singleton.2 rfl)⟩
theorem Rows.monoR {α:Type} {k:Nat} {R R':List Value->α->Prop} {css:List (List Value)} {ys:List α} (h:Rows k R css ys) (hR:∀ cs y,R cs y->R' cs y):Rows k R' css ys:=⟨h.hc,h.hk,fun i h1 h2=>hR _ _ (h.hR i h1 h2)⟩
theorem Rows.one {α:Type} {k:Nat} {R:List Value->α->Prop} {cs:List Value} {y:α} (hR:R cs y) (hl:cs.length=k):Rows k R [cs] [y]:=by
 have:=(Rows.nil k R).snoc hR hl
 exact this
section
variable {P:Program} {w w0:World} {X:List Nat} {L:List Item} {S:ay} {K:Value->World->Prop}
theorem Run.call0E {f:FuncId} {fn:Func} {args:List Value} {Post:Value->List Item->ay->Prop}
  (hf:P.funcs[f]?=some fn) (hn:(fn.name == "runtime.NumGoroutine" || fn.body.isNone)=false) (h:Inv w0 X L S w) (hc:Tri P f args [] S Post)
  (hk:∀ v I' S' w',Post v I' S'->Ext w0.heap.size X S S'->Inv w0 X (L++I') S' w'->K v w'):Run P (aF (.func (.func f) #[] #[]) args) w K:=by
 refine Run.callP hf hn ((hc w h.nil.begin).mono ?_)
 rintro e w' ⟨v,I',S',rfl,hI,hE,hP⟩
 refine hk v I' S' w' hP ⟨hE.1,fun b o hb=>?_⟩ (Inv.step (A:=L) (B:=[]) (by simpa using h) hI hE.2)
 rcases hE.2 b o hb with h1|h1|h1
 ·exact .inl h1
 ·simp [bS] at h1
 ·exact .inr (.inr (Nat.le_trans h.size h1))
end
theorem Ext.trans {n:Nat} {Y:List Nat} {S S' S'':ay} (h:Ext n Y S S') (h':Ext n Y S' S''):Ext n Y S S'':=by
 refine ⟨h.1.trans h'.1,fun b o hb=>?_⟩
 rcases h'.2 b o hb with h1|h1
 ·exact h.2 b o h1
 ·exact .inr h1
section
variable {P:Program} {w w0:World} {X:List Nat} {A I:List Item} {S:ay} {K:Value->World->Prop}
theorem Jr {f:FuncId} {args:List Value} {Post:Value->List Item->ay->Prop} (h:Inv w0 X (A++I) S w) (hc:Tri P f args I S Post) :
  Calls P f args.toArray w fun e w'=>∃ v I' S',e=.returned v/\Inv w0 X (A++I') S' w'/\Ext w0.heap.size X S S'/\Post v I' S':=by
 refine (hc w (h.sub (List.sublist_append_right A I)).begin).mono ?_
 rintro e w' ⟨v,I',S',rfl,hI,hE,hP⟩
 refine ⟨v,I',S',rfl,Inv.step h hI hE.2,⟨hE.1,fun b o hb=>?_⟩,hP⟩
 rcases hE.2 b o hb with h1|h1|h1
 ·exact .inl h1
 ·exact .inr (h.new b (by rw [cE]; exact List.mem_append_right _ h1))
 ·exact .inr (.inr (Nat.le_trans h.size h1))
theorem Run.callE {f:FuncId} {fn:Func} {args:List Value} {Post:Value->List Item->ay->Prop}
  (hf:P.funcs[f]?=some fn) (hn:(fn.name == "runtime.NumGoroutine" || fn.body.isNone)=false) (h:Inv w0 X (A++I) S w) (hc:Tri P f args I S Post)
  (hk:∀ v I' S' w',Post v I' S'->Ext w0.heap.size X S S'->Inv w0 X (A++I') S' w'->K v w'):Run P (aF (.func (.func f) #[] #[]) args) w K:=by
 refine Run.callP hf hn ((Jr h hc).mono ?_)
 rintro e w' ⟨v,I',S',rfl,hI,hE,hP⟩
 exact hk v I' S' w' hP hE hI
theorem Run.callVE {f:FuncId} {fn:Func} {cap args:List Value} {Post:Value->List Item->ay->Prop}
  (hf:P.funcs[f]?=some fn) (hn:(fn.name == "runtime.NumGoroutine" || fn.body.isNone)=false) (h:Inv w0 X (A++I) S w) (hc:Tri P f (args++cap) I S Post)
  (hk:∀ v I' S' w',Post v I' S'->Ext w0.heap.size X S S'->Inv w0 X (A++I') S' w'->K v w'):Run P (aF (fv f cap) args) w K:=by
 unfold Run
 rw [BK hf hn]
 refine (Jr h hc).mono ?_
 rintro e w' ⟨v,I',S',rfl,hI,hE,hP⟩
 exact hk v I' S' w' hP hE hI
end
theorem Inv.lendExt {w0 w:World} {X:List Nat} {A:List Item} {S:ay} {v:Value} {e:TypeId} {k:Nat} {css:List (List Value)} (h:Inv w0 X (A++[a5 v e k css]) S w) :
  ∃ S',Ext w0.heap.size X S S'/\RowRd S' v e k css.length css.flatten/\Inv w0 X A S' w:=by
 obtain ⟨hl,ho⟩:=h.openRow
 rcases ho with ⟨rfl,h0⟩|⟨g,cap,cur,rfl,hnc,hcm,hcs,ht,hI⟩
 ·exact ⟨S,Ext.refl _ _ _,⟨hl,.inl ⟨rfl,h0⟩⟩,h.sub (List.sublist_append_left _ _)⟩
 ·obtain ⟨S',h1,h2,h3⟩:=Inv.pub1 (A:=A) hI
  exact ⟨S',h2,⟨hl,.inr ⟨g,cap,cur,rfl,h3,hnc,hcm,hcs,ht⟩⟩,h1⟩

end Go.Proofs.YtnmnddpdikghhaaGreat
