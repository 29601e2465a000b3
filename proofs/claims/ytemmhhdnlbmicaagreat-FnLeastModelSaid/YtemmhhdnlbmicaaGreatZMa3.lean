/- Bytes, numbers, names and operators in texts: spec.l1Sign and its kin. (printed by gen_byt.py) -/
import Derived.Test.YtemmhhdnlbmicaaGreatZMa2
import Derived.Test.YtemmhhdnlbmicaaGreatZMaF
import Derived.Test.YtemmhhdnlbmicaaGreatZMa0
namespace Go.Proofs.YtemmhhdnlbmicaaGreat
open Go Go.RowKit
theorem kj {s:Bs} {i:Nat} (h:i<s.length) (c:Nat):sgn s i c=decide (s[i].toNat=c):=by simp [sgn,List.getElem?_eq_getElem h]
theorem NP {s:Bs} {i:Nat} (h:¬ i<s.length) (c:Nat):sgn s i c=false:=by simp [sgn,List.getElem?_eq_none (Nat.le_of_not_lt h)]
theorem ne {s:Bs} {i:Nat} (h:i<s.length) (a b:Nat):btw s i a b=(decide (a<=s[i].toNat) && decide (s[i].toNat<=b)):=by simp [btw,List.getElem?_eq_getElem h]
theorem IU {s:Bs} {i:Nat} (h:¬ i<s.length) (a b:Nat):btw s i a b=false:=by simp [btw,List.getElem?_eq_none (Nat.le_of_not_lt h)]
theorem zA {s:Bs} {i a b:Nat} (h:btw s i a b=true):i<s.length:=by
 rcases Nat.lt_or_ge i s.length with h1|h1
 ·exact h1
 ·rw [IU (by omega)] at h; cases h
theorem hO {s:Bs} {i c:Nat} (h:sgn s i c=true):i<s.length:=by
 rcases Nat.lt_or_ge i s.length with h1|h1
 ·exact h1
 ·rw [NP (by omega)] at h; cases h
section
attribute [local irreducible] Run CondV ag be
theorem dn (s:Bs) (i c:Nat) (S:aF):Pure Tryz.prog J5 [.string (st s),.int .i64 (i:Int),.int .u8 (c:Int)] S (.bool (sgn s i c)):=by
 intro w hI
 refine AQ ?_
 unfold xy;dsimp only
 refine l4 (by omega) ?_
 repeat (first|refine ad ?_|refine af (by decide) ?_|refine ab ?_|refine ai ?_|refine ah ?_)
 refine fX bi ?_
 by_cases h:i<s.length
 ·refine zv (by omega) ?_
  repeat (first|refine ad ?_|refine af (by decide) ?_|refine ab ?_|refine ai ?_|refine ah ?_)
  refine eN bi h ?_
  refine bR ?_
  repeat (first|refine ad ?_|refine af (by decide) ?_|refine ab ?_|refine ai ?_|refine ah ?_)
  refine done hI ?_
  rw [kj h]
  congr 1
  rw [decide_eq_decide]
  omega
 ·refine fq (by omega) ?_
  repeat (first|refine ad ?_|refine af (by decide) ?_|refine ab ?_|refine ai ?_|refine ah ?_)
  exact done hI (by rw [NP h])
theorem gX (s:Bs) (i:Nat) (S:aF):Pure Tryz.prog Hc [.string (st s),.int .i64 (i:Int)] S (.bool (dig s i)):=by
 intro w hI
 refine yM ?_
 unfold tr;dsimp only
 refine l4 (by omega) ?_
 repeat (first|refine ad ?_|refine af (by decide) ?_|refine ab ?_|refine ai ?_|refine ah ?_)
 refine fX bi ?_
 by_cases h:i<s.length
 ·refine zv (by omega) ?_
  repeat (first|refine ad ?_|refine af (by decide) ?_|refine ab ?_|refine ai ?_|refine ah ?_)
  refine eN bi h ?_
  rw [dig,ne h]
  by_cases h2:48<=s[i].toNat
  ·refine l4 (by omega) ?_
   repeat (first|refine ad ?_|refine af (by decide) ?_|refine ab ?_|refine ai ?_|refine ah ?_)
   refine eN bi h ?_
   refine gk ?_
   repeat (first|refine ad ?_|refine af (by decide) ?_|refine ab ?_|refine ai ?_|refine ah ?_)
   refine done hI ?_
   rw [decide_eq_true h2,Bool.true_and]
   congr 1
   rw [decide_eq_decide]
   omega
  ·refine rH (by omega) ?_
   repeat (first|refine ad ?_|refine af (by decide) ?_|refine ab ?_|refine ai ?_|refine ah ?_)
   exact done hI (by rw [decide_eq_false h2,Bool.false_and])
 ·refine fq (by omega) ?_
  repeat (first|refine ad ?_|refine af (by decide) ?_|refine ab ?_|refine ai ?_|refine ah ?_)
  exact done hI (by rw [dig,IU h])
theorem nw (s:Bs) (i:Nat) (S:aF):Pure Tryz.prog Hs [.string (st s),.int .i64 (i:Int)] S (.bool (sml s i)):=by
 intro w hI
 refine yo ?_
 unfold tQ;dsimp only
 refine l4 (by omega) ?_
 repeat (first|refine ad ?_|refine af (by decide) ?_|refine ab ?_|refine ai ?_|refine ah ?_)
 refine fX bi ?_
 by_cases h:i<s.length
 ·refine zv (by omega) ?_
  repeat (first|refine ad ?_|refine af (by decide) ?_|refine ab ?_|refine ai ?_|refine ah ?_)
  refine eN bi h ?_
  rw [sml,ne h]
  by_cases h2:97<=s[i].toNat
  ·refine l4 (by omega) ?_
   repeat (first|refine ad ?_|refine af (by decide) ?_|refine ab ?_|refine ai ?_|refine ah ?_)
   refine eN bi h ?_
   refine gk ?_
   repeat (first|refine ad ?_|refine af (by decide) ?_|refine ab ?_|refine ai ?_|refine ah ?_)
   refine done hI ?_
   rw [decide_eq_true h2,Bool.true_and]
   congr 1
   rw [decide_eq_decide]
   omega
  ·refine rH (by omega) ?_
   repeat (first|refine ad ?_|refine af (by decide) ?_|refine ab ?_|refine ai ?_|refine ah ?_)
   exact done hI (by rw [decide_eq_false h2,Bool.false_and])
 ·refine fq (by omega) ?_
  repeat (first|refine ad ?_|refine af (by decide) ?_|refine ab ?_|refine ai ?_|refine ah ?_)
  exact done hI (by rw [sml,IU h])
end
theorem K8 {s:Bs} {i:Nat} (h:i<s.length):dig s i=true↔48<=s[i].toNat/\s[i].toNat<=57:=by
 rw [dig,ne h,Bool.and_eq_true,decide_eq_true_eq,decide_eq_true_eq]
theorem LP {d:Bs} {j:Nat} (h:j<d.length) (m:Nat):Cf (d.drop j) m=Cf (d.drop (j+1)) (m * 10+(d[j].toNat - 48)):=by
 rw [List.drop_eq_getElem_cons h,Cf]
section
attribute [local irreducible] Run CondV ag be
theorem Fa (d:Bs) (hd:∀ i,i<d.length->dig d i=true) (h0:0<d.length) (h4:d.length<=4) (hz:¬ (sgn d 0 48=true/\1<d.length)) (S:aF) :
  Pure Tryz.prog IQ [.string (st d)] S (.tuple #[.int .i64 ((Cf d 0:Nat):Int),.bool true]):=by
 intro w hI
 refine zO ?_
 unfold xr;dsimp only
 have hd0:=(K8 h0).1 (hd 0 h0)
 refine ⟨fun t w'=>t=.bool false/\Inv w [] [] S w',?_,?_⟩
 ·refine fX bi ?_
  refine Jv (by omega) ?_
  repeat (first|refine ad ?_|refine af (by decide) ?_|refine ab ?_|refine ai ?_|refine ah ?_)
  refine eN (i:=0) bi h0 ?_
  refine fe (by omega) ?_
  repeat (first|refine ad ?_|refine af (by decide) ?_|refine ab ?_|refine ai ?_|refine ah ?_)
  exact ⟨rfl,hI⟩
 intro t4 _ _ _ _ _ _ _ _ w'
 rintro ⟨rfl,hI⟩
 refine ⟨fun t w'=>t=.string (st d)/\Inv w [] [] S w',?_,?_⟩
 ·exact ba (fun hb=>by cases hb) (fun _=>⟨rfl,hI⟩)
 intro t0 _ _ _ w'
 rintro ⟨rfl,hI⟩
 refine ⟨fun t w'=>t=.bool false/\Inv w [] [] S w',?_,?_⟩
 ·refine fX bi ?_
  refine fe (by omega) ?_
  repeat (first|refine ad ?_|refine af (by decide) ?_|refine ab ?_|refine ai ?_|refine ah ?_)
  refine fX bi ?_
  refine lU (by omega) ?_
  repeat (first|refine ad ?_|refine af (by decide) ?_|refine ab ?_|refine ai ?_|refine ah ?_)
  refine eN (i:=0) bi h0 ?_
  by_cases hs:d[0].toNat=48
  ·refine gf (by omega) ?_
   repeat (first|refine ad ?_|refine af (by decide) ?_|refine ab ?_|refine ai ?_|refine ah ?_)
   refine fX bi ?_
   refine lU (by
    have:¬ 1<d.length:=fun h=>hz ⟨by rw [kj h0,hs]; rfl,h⟩
    omega) ?_
   repeat (first|refine ad ?_|refine af (by decide) ?_|refine ab ?_|refine ai ?_|refine ah ?_)
   exact ⟨rfl,hI⟩
  ·refine fe (by omega) ?_
   repeat (first|refine ad ?_|refine af (by decide) ?_|refine ab ?_|refine ai ?_|refine ah ?_)
   exact ⟨rfl,hI⟩
 intro t38 _ _ _ _ _ _ _ _ _ _ _ _ _ _ _ _ _ _ _ _ w'
 rintro ⟨rfl,hI⟩
 refine ba (fun hb=>by cases hb) (fun _=>?_)
 refine ⟨fun i n w'=>∃ j m:Nat,j<=d.length/\i=.int .i64 j/\n=.int .i64 m/\m<10 ^ j/\Cf (d.drop j) m=Cf d 0/\Inv w [] [] S w',fun i _ _=>d.length - (intOf i).toNat,
  ⟨0,0,Nat.zero_le _,rfl,rfl,by simp,rfl,hI⟩,?_⟩
 intro t6 _ _ t5 _ _ _ _ _ _ _ _ _ _ _ _ _ _ _ _ _ _ _ _ _ _ _ _ w'
 rintro ⟨j,m,hj,rfl,rfl,hm,hval,hI⟩
 have hp:10 ^ j<=10 ^ 4:=Nat.pow_le_pow_right (by omega) (by omega)
 refine fX bi ?_
 refine bU ?_
 refine bk (fun hji=>?_) (fun hji=>?_)
 ·have hj':j<d.length:=by omega
  have hdj:=(K8 hj').1 (hd j hj')
  refine ⟨fun t w'=>t=.bool false/\Inv w [] [] S w',?_,?_⟩
  ·refine eN bi hj' ?_
   refine fq (by omega) ?_
   repeat (first|refine ad ?_|refine af (by decide) ?_|refine ab ?_|refine ai ?_|refine ah ?_)
   refine eN bi hj' ?_
   refine lU (by omega) ?_
   repeat (first|refine ad ?_|refine af (by decide) ?_|refine ab ?_|refine ai ?_|refine ah ?_)
   exact ⟨rfl,hI⟩
  intro t54 _ _ _ _ _ _ _ _ _ w'
  rintro ⟨rfl,hI⟩
  refine ba (fun hb=>by cases hb) (fun _=>?_)
  refine Dx (by omega) ?_
  refine eN bi hj' ?_
  refine Nk (c:=((d[j].toNat - 48:Nat):Int)) ?_ ?_
  ·rw [IntWalk.u8_in _ (by omega)]; omega
  refine pJ gz kM (IntWalk.i64_in _ (by omega)) ?_
  refine bP (by omega) ?_
  refine bP (by omega) ?_
  refine ⟨⟨j+1,m * 10+(d[j].toNat - 48),hj',rfl,?_,?_,?_,hI⟩,by simp [intOf]; omega⟩
  ·congr 1
  ·rw [Nat.pow_succ]; omega
  ·rw [<- hval,LP hj']
 ·have:j=d.length:=by omega
  subst this
  rw [List.drop_length,Cf] at hval
  refine ⟨fun t w'=>t=.int .i64 m/\Inv w [] [] S w',ba (fun hb=>by cases hb) (fun _=>⟨rfl,hI⟩),?_⟩
  intro t5 _ _ _ w'
  rintro ⟨rfl,hI⟩
  exact done hI (by rw [hval])
abbrev DZ (k n:Int):Value:=.agg #[.int .i64 k,.int .i64 n,.string ⟨#[]⟩,.slice none 0 0]
theorem x3 {w:World} {K:Value->World->Prop} {k n:Int} (hk:K (DZ k n) w):Run Tryz.prog (dN ac [(0,.int .i64 k),(1,.int .i64 n)]) w K:=by
 refine Run.of (v:=DZ k n) (w':=w) ?_ hk
 unfold dN
 rw [Sem.run_bind,run_build w ac _ #[.int .i64 k,.int .i64 n,.string ⟨#[]⟩,.slice none 0 0] (by kernel_rfl),Result.andThen_ok]
 rfl
theorem rm (n:Int) (S:aF):Pure Tryz.prog Mg [.int .i64 n] S (DZ 1 n):=by
 intro w hI
 refine CP ?_
 unfold Bw
 refine bH hI bN fun b w' hI=>?_
 refine x3 ?_
 refine bf hI 0 rfl al rfl rfl (by simp [Value.oneCell']) fun w' hI=>?_
 refine cH hI 0 al rfl rfl ?_
 exact done hI rfl
theorem lX (n:Int) (S:aF):Pure Tryz.prog Mu [.int .i64 n] S (DZ 2 n):=by
 intro w hI
 refine Cx ?_
 unfold Ao
 refine bH hI bN fun b w' hI=>?_
 refine x3 ?_
 refine bf hI 0 rfl al rfl rfl (by simp [Value.oneCell']) fun w' hI=>?_
 refine cH hI 0 al rfl rfl ?_
 exact done hI rfl
end
theorem GH (s:Bs) (n e:Nat):qB s (n+1) e=if dig s e=true then qB s n (e+1) else e:=rfl
theorem FS (s:Bs):∀ (n e:Nat),e<=qB s n e/\qB s n e<=e+n
 | 0,e=>by simp [qB]
 | n+1,e=>by
  rw [qB]
  split
  ·have:=FS s n (e+1); omega
  ·omega
theorem uk (s:Bs):∀ (n e i:Nat),e<=i->i<qB s n e->dig s i=true
 | 0,e,i,h1,h2=>by simp [qB] at h2; omega
 | n+1,e,i,h1,h2=>by
  rw [qB] at h2
  split at h2
  ·rename_i h
   by_cases he:e=i
   ·subst he; exact h
   ·exact uk s n (e+1) i (by omega) h2
  ·omega
theorem Fi {s:Bs} {a b i:Nat} (hi:i<(cut s a b).length):∃ h:a+i<s.length,(cut s a b)[i]=s[a+i]/\a+i<b:=by
 have h1:(cut s a b).length=min b s.length - a:=by simp [cut]
 refine ⟨by omega,?_,by omega⟩
 simp [cut]
theorem FJ {s:Bs} {a b:Nat} (hb:b<=s.length):(cut s a b).length=b - a:=by simp [cut]; omega
theorem Ot {s:Bs} {a b i:Nat} (hi:i<(cut s a b).length):dig (cut s a b) i=dig s (a+i):=by
 obtain ⟨h,e,_⟩:=Fi hi
 rw [dig,dig,ne hi,ne h,e]
section
attribute [local irreducible] Run CondV ag be
theorem Ab {s:Bs} {i e:Nat} {t:T} (hn:Oh s i=some (t,e)) (hi:i<=100000) (S:aF) :
  ∃ n:Int,inI n/\t=.mk 2 n emptyB []/\i<=e/\e<=i+5/\Pure Tryz.prog EY [.string (st s),.int .i64 (i:Int)] S (.tuple #[DZ 2 n,.int .i64 (e:Int)]):=by
 unfold Oh at hn
 obtain ⟨fr,hfr⟩:∃ fr,fr=if sgn s i 45=true then i+1 else i:=⟨_,rfl⟩
 simp only [<- hfr] at hn
 obtain ⟨en,hen⟩:∃ en,en=qB s 4 fr:=⟨_,rfl⟩
 simp only [<- hen] at hn
 have hle:=FS s 4 fr
 rw [<- hen] at hle
 have hfi:i<=fr/\fr<=i+1:=by rw [hfr]; split <;> omega
 split at hn
 ·cases hn
 rename_i hc
 simp only [not_or] at hc
 obtain ⟨hc1,hc2,hc3,hc4⟩:=hc
 simp only [Option.some.injEq,Prod.mk.injEq] at hn
 obtain ⟨rfl,rfl⟩:=hn
 have hdig:∀ j,j<(cut s fr en).length->dig (cut s fr en) j=true:=fun j hj=>by
  obtain ⟨h1,h2,h3⟩:=Fi hj
  rw [Ot hj]
  exact uk s 4 fr _ (by omega) (by rw [<- hen]; exact h3)
 have hlen0:0<(cut s fr en).length:=by
  cases he:cut s fr en with
  | nil=>exact absurd he hc1
  | cons a l=>simp
 have hen2:fr<en:=by
  obtain ⟨_,_,h3⟩:=Fi hlen0
  omega
 have hens:en<=s.length:=by
  have:=uk s 4 fr (en - 1) (by omega) (by rw [<- hen]; omega)
  have:=zA this
  omega
 refine ⟨_,?_,rfl,by omega,by omega,?_⟩
 ·unfold inI; split <;> omega
 intro w hI
 refine vJ ?_
 unfold qW;dsimp only
 refine bH hI bN fun b4 w' hI=>?_
 refine ⟨fun t w'=>t=.int .i64 (fr:Int)/\Inv w [] [.blk b4 (.cells #[.int .i64 0,.int .i64 0,.string ⟨#[]⟩,.slice none 0 0] ac)] S w',?_,?_⟩
 ·refine Run.callPure dE dH hI (dn s i 45 S) fun w' hI=>?_
  refine ba (fun hb=>?_) (fun hb=>?_)
  ·refine bP (by omega) ?_
   rw [if_pos hb] at hfr
   exact ⟨by rw [hfr]; congr 1,hI⟩
  ·rw [if_neg (by rw [hb]; decide)] at hfr
   exact ⟨by rw [hfr],hI⟩
 intro t6 _ _ _ _ _ w'
 rintro ⟨rfl,hI⟩
 refine ⟨fun t w'=>∃ j:Nat,t=.int .i64 (j:Int)/\fr<=j/\j<=fr+4/\qB s (fr+4 - j) j=en/\Inv w [] [.blk b4 (.cells #[.int .i64 0,.int .i64 0,.string ⟨#[]⟩,.slice none 0 0] ac)] S w',fun t _=>fr+4 - (intOf t).toNat,
  ⟨fr,rfl,Nat.le_refl _,by omega,by rw [Nat.add_sub_cancel_left]; exact hen.symm,hI⟩,?_⟩
 intro t6 _ _ _ _ _ _ _ _ _ _ _ w'
 rintro ⟨j,rfl,hj1,hj2,hj3,hI⟩
 refine ⟨fun t w'=>t=.bool (dig s j && decide (j<fr+4))/\Inv w [] [.blk b4 (.cells #[.int .i64 0,.int .i64 0,.string ⟨#[]⟩,.slice none 0 0] ac)] S w',?_,?_⟩
 ·refine Run.callPure jQ jN hI (gX s j S) fun w' hI=>?_
  cases hdj:dig s j
  ·repeat (first|refine ad ?_|refine af (by decide) ?_|refine ab ?_|refine ai ?_|refine ah ?_)
   exact ⟨rfl,hI⟩
  ·repeat (first|refine ad ?_|refine af (by decide) ?_|refine ab ?_|refine ai ?_|refine ah ?_)
   refine bP (by omega) ?_
   refine bU ?_
   repeat (first|refine ad ?_|refine af (by decide) ?_|refine ab ?_|refine ai ?_|refine ah ?_)
   refine ⟨?_,hI⟩
   rw [Bool.true_and]
   congr 1
   rw [decide_eq_decide]
   omega
 intro t25 _ _ _ _ _ _ _ _ w'
 rintro ⟨rfl,hI⟩
 refine ba (fun hb=>?_) (fun hb=>?_)
 ·rw [Bool.and_eq_true,decide_eq_true_eq] at hb
  refine bP (by omega) ?_
  refine ⟨⟨j+1,rfl,by omega,by omega,?_,hI⟩,by simp [intOf]; omega⟩
  rw [<- hj3,show fr+4 - j=(fr+4 - (j+1))+1 by omega,GH,if_pos hb.1]
 ·have hje:j=en:=by
   rw [<- hj3]
   by_cases h4:j=fr+4
   ·rw [h4,Nat.sub_self]; rfl
   ·rw [show fr+4 - j=(fr+4 - (j+1))+1 by omega,GH,if_neg]
    intro hd
    rw [hd,Bool.true_and,decide_eq_false_iff_not] at hb
    omega
  subst hje
  refine z4 bi (by omega) hens ?_
  refine Run.callPure GM Hm hI (Fa _ hdig hlen0 (by rw [FJ hens]; omega) hc2 S) fun w' hI=>?_
  obtain ⟨n,hn⟩:∃ n,n=Cf (cut s fr j) 0:=⟨_,rfl⟩
  rw [<- hn]
  refine a7 (v:=.int .i64 (n:Int)) rfl ?_
  refine a7 (v:=.bool true) rfl ?_
  simp only [<- hn] at hc3 hc4 ⊢
  refine ⟨fun t w'=>t=.bool false/\Inv w [] [.blk b4 (.cells #[.int .i64 0,.int .i64 0,.string ⟨#[]⟩,.slice none 0 0] ac)] S w',?_,?_⟩
  ·refine cc ?_
   repeat (first|refine ad ?_|refine af (by decide) ?_|refine ab ?_|refine ai ?_|refine ah ?_)
   by_cases hfi':i<fr
   ·refine Jv (by omega) ?_
    repeat (first|refine ad ?_|refine af (by decide) ?_|refine ab ?_|refine ai ?_|refine ah ?_)
    refine bR ?_
    have:¬ n=0:=fun h=>hc3 ⟨hfi',h⟩
    rw [decide_eq_false (by omega)]
    repeat (first|refine ad ?_|refine af (by decide) ?_|refine ab ?_|refine ai ?_|refine ah ?_)
    refine lU (by omega) ?_
    repeat (first|refine ad ?_|refine af (by decide) ?_|refine ab ?_|refine ai ?_|refine ah ?_)
    exact ⟨rfl,hI⟩
   ·refine lU (by omega) ?_
    repeat (first|refine ad ?_|refine af (by decide) ?_|refine ab ?_|refine ai ?_|refine ah ?_)
    refine lU (by omega) ?_
    repeat (first|refine ad ?_|refine af (by decide) ?_|refine ab ?_|refine ai ?_|refine ah ?_)
    exact ⟨rfl,hI⟩
  intro t50 _ _ _ _ _ _ _ _ _ _ _ _ _ _ w'
  rintro ⟨rfl,hI⟩
  refine ba (fun hb=>by cases hb) (fun _=>?_)
  refine ⟨fun t w'=>t=.int .i64 (if i<fr then -(n:Int) else n)/\Inv w [] [.blk b4 (.cells #[.int .i64 0,.int .i64 0,.string ⟨#[]⟩,.slice none 0 0] ac)] S w',?_,?_⟩
  ·refine dX ?_
   refine bk (fun hb=>?_) (fun hb=>?_)
   ·refine OY (by omega) ?_
    exact ⟨by rw [if_pos (by omega)],hI⟩
   ·exact ⟨by rw [if_neg (by omega)],hI⟩
  intro t8 _ _ _ _ _ w'
  rintro ⟨rfl,hI⟩
  refine Run.callPure rE sk hI (lX _ S) fun w' hI=>?_
  refine bf hI 0 rfl al rfl rfl (by simp [Value.oneCell']) fun w' hI=>?_
  refine cH hI 0 al rfl rfl ?_
  exact done hI rfl
end
theorem RdSl.some1 {α:Type} {S:aF} {k:Nat} {R:List Value->α->Prop} {v:Value} {xs:List α} (h:RdSl S k R v xs) (h0:0<xs.length):∃ b o cap,v=.slice (some ⟨b,o,none⟩) xs.length cap:=by
 obtain ⟨b,o,cap,c,E,fz,e,_,_⟩:=h.at_ h0
 exact ⟨b,o,cap,e⟩
theorem F8 (s:Bs) (n e:Nat):yB s (n+1) e=if sml s e=true then yB s n (e+1) else e:=rfl
def Lz (o:Option (Bs × Nat)):Value:=match o with
 | none=>.tuple #[.string ⟨#[]⟩,.int .i64 (-1)]
 | some (n,e)=>.tuple #[.string (st n),.int .i64 (e:Int)]
theorem Ks (s:Bs) (i:Nat) {j:Nat} (h:j<signs.length) (b:Bs):il s i (signs.drop j) b=il s i (signs.drop (j+1)) (if decide (i+signs[j].size<=s.length)=true/\cut s i (i+signs[j].size)=bs signs[j]/\b.length<signs[j].size then bs signs[j] else b):=by
 rw [List.drop_eq_getElem_cons h,il]
theorem Gy:∀ x∈signs,x.size<=3:=by decide
section
attribute [local irreducible] Run CondV ag be
theorem th {s:Bs} {i:Nat} (hi:i<s.length) (hs:s.length<=100000) (S:aF):Pure Tryz.prog KF [.string (st s),.int .i64 (i:Int)] S (Lz (uw s i)):=by
 intro w hI
 refine z7 ?_
 unfold xX
 obtain ⟨E,hE⟩:∃ E,E=yB s (s.length - i) i:=⟨_,rfl⟩
 have hnm:uw s i=if i+6<E then none else if i<E then some (cut s i E,E) else if il s i signs []=[] then none else some (il s i signs [],i+(il s i signs []).length):=by
  rw [uw,<- hE]
 refine ⟨fun t w'=>∃ e:Nat,t=.int .i64 (e:Int)/\i<=e/\e<=s.length/\yB s (s.length - e) e=E/\Inv w [] [] S w',fun t _=>s.length - (intOf t).toNat,⟨i,rfl,Nat.le_refl _,by omega,hE.symm,hI⟩,?_⟩
 intro t6 _ _ _ _ _ w'
 rintro ⟨e,rfl,he1,he2,he3,hI⟩
 refine Run.callPure sO sV hI (nw s e S) fun w' hI=>?_
 refine ba (fun hb=>?_) (fun hb=>?_)
 ·have hlt:=zA hb
  refine bP (by omega) ?_
  refine ⟨⟨e+1,rfl,by omega,by omega,?_,hI⟩,by simp [intOf]; omega⟩
  rw [<- he3,show s.length - e=(s.length - (e+1))+1 by omega,F8,if_pos hb]
 have heE:e=E:=by
  rw [<- he3]
  by_cases h:e=s.length
  ·rw [h,Nat.sub_self,yB]
  ·rw [show s.length - e=(s.length - (e+1))+1 by omega,F8,if_neg (by rw [hb]; decide)]
 subst heE
 refine bP (by omega) ?_
 refine dX ?_
 refine bk (fun hb=>done hI (by rw [hnm,if_pos (by omega)]; rfl)) (fun hb=>?_)
 rw [if_neg (by omega)] at hnm
 refine dX ?_
 refine bk (fun hb=>?_) (fun hb=>?_)
 ·refine z4 bi (by omega) (by omega) ?_
  exact done hI (by rw [hnm,if_pos (by omega)]; rfl)
 rw [if_neg (by omega)] at hnm
 refine Run.call0 sL sM hI (qR S) fun v I' S1 w'=>?_
 rintro ⟨rfl,hle,hr⟩ _ hI
 obtain ⟨b,o,cap,rfl⟩:=RdSl.some1 hr (by decide)
 refine ⟨fun t u w'=>∃ (j:Nat) (best:Bs),j<=signs.length/\t=.int .i64 (j:Int)/\u=.string (st best)/\best.length<=3/\il s i (signs.drop j) best=il s i signs []/\Inv w [] [] S1 w',fun t _ _=>signs.length - (intOf t).toNat,
  ⟨0,[],Nat.zero_le _,rfl,rfl,by simp,rfl,hI.nil⟩,?_⟩
 intro t9 _ _ t7 _ _ _ _ t65 t64 t63 t62 t61 t60 t59 t58 t57 t56 t55 t54 t53 t52 t51 t50 t49 t48 t47 t46 t45 t44 t43 t42 t41 _ _ _ _ _ _ _ _ _ _ w'
 rintro ⟨j,best,hj0,rfl,rfl,hbl,hbest,hI⟩
 have h15:signs.length=15:=rfl
 refine a9 hr dd ?_
 refine bU ?_
 refine bk (fun hji=>?_) (fun hji=>?_)
 ·have hj:j<signs.length:=by omega
  obtain ⟨x,hx⟩:∃ x,x=signs[j]:=⟨_,rfl⟩
  have hx3:x.size<=3:=by rw [hx]; exact Gy _ (List.getElem_mem hj)
  obtain ⟨b',o',cap',c,E',fz,hsl,hS,hR⟩:=hr.at_ hj
  cases hsl
  have hcx:c[o+j * 1]?=some (.string x):=by rw [hx]; exact bl hR 0 _ rfl
  rw [Ks s i hj,<- hx] at hbest
  refine ⟨fun u w'=>∃ best',u=.string (st best')/\best'.length<=3/\il s i (signs.drop (j+1)) best'=il s i signs []/\Inv w [] [] S1 w',?_,?_⟩
  ·refine bh dd hj ?_
   refine dM bm ((hI.cellS hS).trans hcx) ?_
   refine j8 bi ?_
   by_cases hlen:i+x.size<=s.length
   ·cases hq:decide (st (cut s i (i+x.size))=x)
    ·skip
     refine ⟨fun D cG cL ch cM cP cR cN cS cQ cO dj cZ dt cY cX cW cU bV bW db du dv dw dx dy w_=>(D 0=true->dy=.int .i64 (i:Int))/\(D 1=true->dx=.int .i64 (x.size:Int))/\(D 2=true->dw=.int .i64 ((i+x.size:Nat):Int))/\(D 3=true->dv=.string (st s))/\(D 4=true->du=.int .i64 (s.length:Int))/\(D 5=true->db=.bool true)/\(D 6=true->bW=.bool true)/\(D 7=true->bV=.string (st s))/\(D 8=true->cU=.int .i64 (i:Int))/\(D 9=true->cW=.int .i64 (i:Int))/\(D 10=true->cX=.int .i64 (x.size:Int))/\(D 11=true->cY=.int .i64 ((i+x.size:Nat):Int))/\(D 12=true->dt=.string (st (cut s i (i+x.size))))/\(D 13=true->cZ=.slice (some ⟨b,o,none⟩) signs.length cap)/\(D 14=true->dj=.int .i64 (j:Int))/\(D 15=true->cO=.pointer (some ⟨b,o+j * 1,none⟩))/\(D 16=true->cQ=.string x)/\(D 17=true->cS=.bool false)/\(D 18=true->cN=.bool false)/\(D 19=true->cR=.bool false)/\(D 20=true->cP=undef)/\(D 21=true->cM=undef)/\(D 22=true->ch=undef)/\(D 23=true->cL=undef)/\(D 24=true->cG=.bool false)/\Inv w [] [] S1 w_,⟨ae,ae,ae,ae,ae,ae,ae,ae,ae,ae,ae,ae,ae,ae,ae,ae,ae,ae,ae,ae,ae,ae,ae,ae,ae,hI.draw⟩,⟨?_,?_,?_,?_,?_,?_,?_,?_,?_,?_,?_,?_,?_,?_,?_,?_,?_,?_,?_,?_,?_,?_,?_,?_,?_,trivial⟩,?_⟩
     ·intro D aY  cG cL ch cM cP cR cN cS cQ cO dj cZ dt cY cX cW cU bV bW db du dv dw dx dy w_
      rintro ⟨az,ay,aA,aB,aw,aD,aE,aI,aL,aP,aj,ao,aH,aM,aO,aN,aV,aU,aW,aX,a6,a5,a4,aZ,a8,hI⟩
      exact ⟨fun _=>rfl,ay,aA,aB,aw,aD,aE,aI,aL,aP,aj,ao,aH,aM,aO,aN,aV,aU,aW,aX,a6,a5,a4,aZ,a8,hI⟩
     ·intro D aY  cG cL ch cM cP cR cN cS cQ cO dj cZ dt cY cX cW cU bV bW db du dv dw dx dy w_
      rintro ⟨az,ay,aA,aB,aw,aD,aE,aI,aL,aP,aj,ao,aH,aM,aO,aN,aV,aU,aW,aX,a6,a5,a4,aZ,a8,hI⟩
      exact ⟨az,fun _=>rfl,aA,aB,aw,aD,aE,aI,aL,aP,aj,ao,aH,aM,aO,aN,aV,aU,aW,aX,a6,a5,a4,aZ,a8,hI⟩
     ·intro D aY ce iL cG cL ch cM cP cR cN cS cQ cO dj cZ dt cY cX cW cU bV bW db du dv dw dx dy w_
      rintro ⟨az,ay,aA,aB,aw,aD,aE,aI,aL,aP,aj,ao,aH,aM,aO,aN,aV,aU,aW,aX,a6,a5,a4,aZ,a8,hI⟩
      obtain rfl:=az ce
      obtain rfl:=ay iL
      refine bP (by omega) ?_
      exact ⟨az,ay,fun _=>rfl,aB,aw,aD,aE,aI,aL,aP,aj,ao,aH,aM,aO,aN,aV,aU,aW,aX,a6,a5,a4,aZ,a8,hI⟩
     ·intro D aY  cG cL ch cM cP cR cN cS cQ cO dj cZ dt cY cX cW cU bV bW db du dv dw dx dy w_
      rintro ⟨az,ay,aA,aB,aw,aD,aE,aI,aL,aP,aj,ao,aH,aM,aO,aN,aV,aU,aW,aX,a6,a5,a4,aZ,a8,hI⟩
      exact ⟨az,ay,aA,fun _=>rfl,aw,aD,aE,aI,aL,aP,aj,ao,aH,aM,aO,aN,aV,aU,aW,aX,a6,a5,a4,aZ,a8,hI⟩
     ·intro D aY dF cG cL ch cM cP cR cN cS cQ cO dj cZ dt cY cX cW cU bV bW db du dv dw dx dy w_
      rintro ⟨az,ay,aA,aB,aw,aD,aE,aI,aL,aP,aj,ao,aH,aM,aO,aN,aV,aU,aW,aX,a6,a5,a4,aZ,a8,hI⟩
      obtain rfl:=aB dF
      refine fX bi ?_
      exact ⟨az,ay,aA,aB,fun _=>rfl,aD,aE,aI,aL,aP,aj,ao,aH,aM,aO,aN,aV,aU,aW,aX,a6,a5,a4,aZ,a8,hI⟩
     ·intro D aY ev dS cG cL ch cM cP cR cN cS cQ cO dj cZ dt cY cX cW cU bV bW db du dv dw dx dy w_
      rintro ⟨az,ay,aA,aB,aw,aD,aE,aI,aL,aP,aj,ao,aH,aM,aO,aN,aV,aU,aW,aX,a6,a5,a4,aZ,a8,hI⟩
      obtain rfl:=aA ev
      obtain rfl:=aw dS
      refine Bc (by omega) ?_
      exact ⟨az,ay,aA,aB,aw,fun _=>rfl,aE,aI,aL,aP,aj,ao,aH,aM,aO,aN,aV,aU,aW,aX,a6,a5,a4,aZ,a8,hI⟩
     ·intro D aY dV cG cL ch cM cP cR cN cS cQ cO dj cZ dt cY cX cW cU bV bW db du dv dw dx dy w_
      rintro ⟨az,ay,aA,aB,aw,aD,aE,aI,aL,aP,aj,ao,aH,aM,aO,aN,aV,aU,aW,aX,a6,a5,a4,aZ,a8,hI⟩
      obtain rfl:=aD dV
      exact ⟨az,ay,aA,aB,aw,aD,fun _=>rfl,aI,aL,aP,aj,ao,aH,aM,aO,aN,aV,aU,aW,aX,a6,a5,a4,aZ,a8,hI⟩
     ·intro D aY c9 cG cL ch cM cP cR cN cS cQ cO dj cZ dt cY cX cW cU bV bW db du dv dw dx dy w_
      rintro ⟨az,ay,aA,aB,aw,aD,aE,aI,aL,aP,aj,ao,aH,aM,aO,aN,aV,aU,aW,aX,a6,a5,a4,aZ,a8,hI⟩
      obtain rfl:=aE c9
      refine ad ?_
      exact ⟨az,ay,aA,aB,aw,aD,aE,fun _=>rfl,aL,aP,aj,ao,aH,aM,aO,aN,aV,aU,aW,aX,a6,a5,a4,aZ,a8,hI⟩
     ·intro D aY c9 cG cL ch cM cP cR cN cS cQ cO dj cZ dt cY cX cW cU bV bW db du dv dw dx dy w_
      rintro ⟨az,ay,aA,aB,aw,aD,aE,aI,aL,aP,aj,ao,aH,aM,aO,aN,aV,aU,aW,aX,a6,a5,a4,aZ,a8,hI⟩
      obtain rfl:=aE c9
      refine ad ?_
      exact ⟨az,ay,aA,aB,aw,aD,aE,aI,fun _=>rfl,aP,aj,ao,aH,aM,aO,aN,aV,aU,aW,aX,a6,a5,a4,aZ,a8,hI⟩
     ·intro D aY c9 cG cL ch cM cP cR cN cS cQ cO dj cZ dt cY cX cW cU bV bW db du dv dw dx dy w_
      rintro ⟨az,ay,aA,aB,aw,aD,aE,aI,aL,aP,aj,ao,aH,aM,aO,aN,aV,aU,aW,aX,a6,a5,a4,aZ,a8,hI⟩
      obtain rfl:=aE c9
      refine ad ?_
      exact ⟨az,ay,aA,aB,aw,aD,aE,aI,aL,fun _=>rfl,aj,ao,aH,aM,aO,aN,aV,aU,aW,aX,a6,a5,a4,aZ,a8,hI⟩
     ·intro D aY c9 cG cL ch cM cP cR cN cS cQ cO dj cZ dt cY cX cW cU bV bW db du dv dw dx dy w_
      rintro ⟨az,ay,aA,aB,aw,aD,aE,aI,aL,aP,aj,ao,aH,aM,aO,aN,aV,aU,aW,aX,a6,a5,a4,aZ,a8,hI⟩
      obtain rfl:=aE c9
      refine ad ?_
      exact ⟨az,ay,aA,aB,aw,aD,aE,aI,aL,aP,fun _=>rfl,ao,aH,aM,aO,aN,aV,aU,aW,aX,a6,a5,a4,aZ,a8,hI⟩
     ·intro D aY FA mQ mt cG cL ch cM cP cR cN cS cQ cO dj cZ dt cY cX cW cU bV bW db du dv dw dx dy w_
      rintro ⟨az,ay,aA,aB,aw,aD,aE,aI,aL,aP,aj,ao,aH,aM,aO,aN,aV,aU,aW,aX,a6,a5,a4,aZ,a8,hI⟩
      obtain rfl:=aP FA
      obtain rfl:=aj mQ
      obtain rfl:=aE mt
      refine ad ?_; refine bP (by omega) ?_
      exact ⟨az,ay,aA,aB,aw,aD,aE,aI,aL,aP,aj,fun _=>rfl,aH,aM,aO,aN,aV,aU,aW,aX,a6,a5,a4,aZ,a8,hI⟩
     ·intro D aY el gh Hj GF cG cL ch cM cP cR cN cS cQ cO dj cZ dt cY cX cW cU bV bW db du dv dw dx dy w_
      rintro ⟨az,ay,aA,aB,aw,aD,aE,aI,aL,aP,aj,ao,aH,aM,aO,aN,aV,aU,aW,aX,a6,a5,a4,aZ,a8,hI⟩
      obtain rfl:=aI el
      obtain rfl:=aL gh
      obtain rfl:=ao Hj
      obtain rfl:=aE GF
      refine ad ?_; refine z4 bi (by omega) (by omega) ?_
      exact ⟨az,ay,aA,aB,aw,aD,aE,aI,aL,aP,aj,ao,fun _=>rfl,aM,aO,aN,aV,aU,aW,aX,a6,a5,a4,aZ,a8,hI⟩
     ·intro D aY c9 cG cL ch cM cP cR cN cS cQ cO dj cZ dt cY cX cW cU bV bW db du dv dw dx dy w_
      rintro ⟨az,ay,aA,aB,aw,aD,aE,aI,aL,aP,aj,ao,aH,aM,aO,aN,aV,aU,aW,aX,a6,a5,a4,aZ,a8,hI⟩
      obtain rfl:=aE c9
      refine ad ?_
      exact ⟨az,ay,aA,aB,aw,aD,aE,aI,aL,aP,aj,ao,aH,fun _=>rfl,aO,aN,aV,aU,aW,aX,a6,a5,a4,aZ,a8,hI⟩
     ·intro D aY c9 cG cL ch cM cP cR cN cS cQ cO dj cZ dt cY cX cW cU bV bW db du dv dw dx dy w_
      rintro ⟨az,ay,aA,aB,aw,aD,aE,aI,aL,aP,aj,ao,aH,aM,aO,aN,aV,aU,aW,aX,a6,a5,a4,aZ,a8,hI⟩
      obtain rfl:=aE c9
      refine ad ?_
      exact ⟨az,ay,aA,aB,aw,aD,aE,aI,aL,aP,aj,ao,aH,aM,fun _=>rfl,aN,aV,aU,aW,aX,a6,a5,a4,aZ,a8,hI⟩
     ·intro D aY iq xC mt cG cL ch cM cP cR cN cS cQ cO dj cZ dt cY cX cW cU bV bW db du dv dw dx dy w_
      rintro ⟨az,ay,aA,aB,aw,aD,aE,aI,aL,aP,aj,ao,aH,aM,aO,aN,aV,aU,aW,aX,a6,a5,a4,aZ,a8,hI⟩
      obtain rfl:=aM iq
      obtain rfl:=aO xC
      obtain rfl:=aE mt
      refine ad ?_; refine bh dd hj ?_
      exact ⟨az,ay,aA,aB,aw,aD,aE,aI,aL,aP,aj,ao,aH,aM,aO,fun _=>rfl,aV,aU,aW,aX,a6,a5,a4,aZ,a8,hI⟩
     ·intro D aY zN gg cG cL ch cM cP cR cN cS cQ cO dj cZ dt cY cX cW cU bV bW db du dv dw dx dy w_
      rintro ⟨az,ay,aA,aB,aw,aD,aE,aI,aL,aP,aj,ao,aH,aM,aO,aN,aV,aU,aW,aX,a6,a5,a4,aZ,a8,hI⟩
      obtain rfl:=aN zN
      obtain rfl:=aE gg
      refine ad ?_; refine dM bm ((hI.cellS hS).trans hcx) ?_
      exact ⟨az,ay,aA,aB,aw,aD,aE,aI,aL,aP,aj,ao,aH,aM,aO,aN,fun _=>rfl,aU,aW,aX,a6,a5,a4,aZ,a8,hI⟩
     ·intro D aY lp xI mt cG cL ch cM cP cR cN cS cQ cO dj cZ dt cY cX cW cU bV bW db du dv dw dx dy w_
      rintro ⟨az,ay,aA,aB,aw,aD,aE,aI,aL,aP,aj,ao,aH,aM,aO,aN,aV,aU,aW,aX,a6,a5,a4,aZ,a8,hI⟩
      obtain rfl:=aH lp
      obtain rfl:=aV xI
      obtain rfl:=aE mt
      refine ad ?_; refine cV ?_; rw [hq]
      exact ⟨az,ay,aA,aB,aw,aD,aE,aI,aL,aP,aj,ao,aH,aM,aO,aN,aV,fun _=>rfl,aW,aX,a6,a5,a4,aZ,a8,hI⟩
     ·intro D aY c9 GI cG cL ch cM cP cR cN cS cQ cO dj cZ dt cY cX cW cU bV bW db du dv dw dx dy w_
      rintro ⟨az,ay,aA,aB,aw,aD,aE,aI,aL,aP,aj,ao,aH,aM,aO,aN,aV,aU,aW,aX,a6,a5,a4,aZ,a8,hI⟩
      obtain rfl:=aE c9
      obtain rfl:=aU GI
      refine ai ?_
      exact ⟨az,ay,aA,aB,aw,aD,aE,aI,aL,aP,aj,ao,aH,aM,aO,aN,aV,aU,fun _=>rfl,aX,a6,a5,a4,aZ,a8,hI⟩
     ·intro D aY tS gg cG cL ch cM cP cR cN cS cQ cO dj cZ dt cY cX cW cU bV bW db du dv dw dx dy w_
      rintro ⟨az,ay,aA,aB,aw,aD,aE,aI,aL,aP,aj,ao,aH,aM,aO,aN,aV,aU,aW,aX,a6,a5,a4,aZ,a8,hI⟩
      obtain rfl:=aW tS
      exact ⟨az,ay,aA,aB,aw,aD,aE,aI,aL,aP,aj,ao,aH,aM,aO,aN,aV,aU,aW,fun _=>rfl,a6,a5,a4,aZ,a8,hI⟩
     ·intro D aY gU cG cL ch cM cP cR cN cS cQ cO dj cZ dt cY cX cW cU bV bW db du dv dw dx dy w_
      rintro ⟨az,ay,aA,aB,aw,aD,aE,aI,aL,aP,aj,ao,aH,aM,aO,aN,aV,aU,aW,aX,a6,a5,a4,aZ,a8,hI⟩
      obtain rfl:=aX gU
      refine af (c:=false) (b:=true) (by decide) ?_
      exact ⟨az,ay,aA,aB,aw,aD,aE,aI,aL,aP,aj,ao,aH,aM,aO,aN,aV,aU,aW,aX,fun _=>rfl,a5,a4,aZ,a8,hI⟩
     ·intro D aY gU cG cL ch cM cP cR cN cS cQ cO dj cZ dt cY cX cW cU bV bW db du dv dw dx dy w_
      rintro ⟨az,ay,aA,aB,aw,aD,aE,aI,aL,aP,aj,ao,aH,aM,aO,aN,aV,aU,aW,aX,a6,a5,a4,aZ,a8,hI⟩
      obtain rfl:=aX gU
      refine af (c:=false) (b:=true) (by decide) ?_
      exact ⟨az,ay,aA,aB,aw,aD,aE,aI,aL,aP,aj,ao,aH,aM,aO,aN,aV,aU,aW,aX,a6,fun _=>rfl,a4,aZ,a8,hI⟩
     ·intro D aY zC G7 cG cL ch cM cP cR cN cS cQ cO dj cZ dt cY cX cW cU bV bW db du dv dw dx dy w_
      rintro ⟨az,ay,aA,aB,aw,aD,aE,aI,aL,aP,aj,ao,aH,aM,aO,aN,aV,aU,aW,aX,a6,a5,a4,aZ,a8,hI⟩
      obtain rfl:=a5 zC
      obtain rfl:=aX G7
      refine af (c:=false) (b:=true) (by decide) ?_
      exact ⟨az,ay,aA,aB,aw,aD,aE,aI,aL,aP,aj,ao,aH,aM,aO,aN,aV,aU,aW,aX,a6,a5,fun _=>rfl,aZ,a8,hI⟩
     ·intro D aY z5 Ik Hy cG cL ch cM cP cR cN cS cQ cO dj cZ dt cY cX cW cU bV bW db du dv dw dx dy w_
      rintro ⟨az,ay,aA,aB,aw,aD,aE,aI,aL,aP,aj,ao,aH,aM,aO,aN,aV,aU,aW,aX,a6,a5,a4,aZ,a8,hI⟩
      obtain rfl:=a6 z5
      obtain rfl:=a4 Ik
      obtain rfl:=aX Hy
      refine af (c:=false) (b:=true) (by decide) ?_
      exact ⟨az,ay,aA,aB,aw,aD,aE,aI,aL,aP,aj,ao,aH,aM,aO,aN,aV,aU,aW,aX,a6,a5,a4,fun _=>rfl,a8,hI⟩
     ·intro D aY gU GY cG cL ch cM cP cR cN cS cQ cO dj cZ dt cY cX cW cU bV bW db du dv dw dx dy w_
      rintro ⟨az,ay,aA,aB,aw,aD,aE,aI,aL,aP,aj,ao,aH,aM,aO,aN,aV,aU,aW,aX,a6,a5,a4,aZ,a8,hI⟩
      obtain rfl:=aX gU
      obtain rfl:=aZ GY
      refine ah ?_
      exact ⟨az,ay,aA,aB,aw,aD,aE,aI,aL,aP,aj,ao,aH,aM,aO,aN,aV,aU,aW,aX,a6,a5,a4,aZ,fun _=>rfl,hI⟩
     intro D Fu ER E0 Fp FX Fe zx Ak Ae nZ n4 oG jh ft fm iW gN f0 f1 fM fF fI fK fL fN cG cL ch cM cP cR cN cS cQ cO dj cZ dt cY cX cW cU bV bW db du dv dw dx dy w_
     rintro ⟨az,ay,aA,aB,aw,aD,aE,aI,aL,aP,aj,ao,aH,aM,aO,aN,aV,aU,aW,aX,a6,a5,a4,aZ,a8,hI⟩
     obtain rfl:=a8 Fu
     obtain rfl:=aZ ER
     obtain rfl:=a4 E0
     obtain rfl:=a5 Fp
     obtain rfl:=a6 FX
     obtain rfl:=aX Fe
     obtain rfl:=aW zx
     obtain rfl:=aU Ak
     obtain rfl:=aV Ae
     obtain rfl:=aN nZ
     obtain rfl:=aO n4
     obtain rfl:=aM oG
     obtain rfl:=aH jh
     obtain rfl:=ao ft
     obtain rfl:=aj fm
     obtain rfl:=aP iW
     obtain rfl:=aL gN
     obtain rfl:=aI f0
     obtain rfl:=aE f1
     obtain rfl:=aD fM
     obtain rfl:=aw fF
     obtain rfl:=aB fI
     obtain rfl:=aA fK
     obtain rfl:=ay fL
     obtain rfl:=az fN
     clear az ay aA aB aw aD aE aI aL aP aj ao aH aM aO aN aV aU aW aX a6 a5 a4 aZ a8
     refine ba (fun hb=>by cases hb) (fun _=>?_)
     refine ⟨best,rfl,hbl,?_,hI⟩
     rw [if_neg] at hbest
     ·exact hbest
     ·rintro ⟨_,h2,_⟩
      rw [decide_eq_false_iff_not] at hq
      exact hq (by rw [h2])
    ·rw [decide_eq_true_eq] at hq
     have hq':=hq
     have hq:decide (st (cut s i (i+x.size))=x)=true:=decide_eq_true hq'
     skip
     refine ⟨fun D cG cL ch cM cP cR cN cS cQ cO dj cZ dt cY cX cW cU bV bW db du dv dw dx dy w_=>(D 0=true->dy=.int .i64 (i:Int))/\(D 1=true->dx=.int .i64 (x.size:Int))/\(D 2=true->dw=.int .i64 ((i+x.size:Nat):Int))/\(D 3=true->dv=.string (st s))/\(D 4=true->du=.int .i64 (s.length:Int))/\(D 5=true->db=.bool true)/\(D 6=true->bW=.bool true)/\(D 7=true->bV=.string (st s))/\(D 8=true->cU=.int .i64 (i:Int))/\(D 9=true->cW=.int .i64 (i:Int))/\(D 10=true->cX=.int .i64 (x.size:Int))/\(D 11=true->cY=.int .i64 ((i+x.size:Nat):Int))/\(D 12=true->dt=.string (st (cut s i (i+x.size))))/\(D 13=true->cZ=.slice (some ⟨b,o,none⟩) signs.length cap)/\(D 14=true->dj=.int .i64 (j:Int))/\(D 15=true->cO=.pointer (some ⟨b,o+j * 1,none⟩))/\(D 16=true->cQ=.string x)/\(D 17=true->cS=.bool true)/\(D 18=true->cN=.bool true)/\(D 19=true->cR=.bool true)/\(D 20=true->cP=.int .i64 (x.size:Int))/\(D 21=true->cM=.string (st best))/\(D 22=true->ch=.int .i64 (best.length:Int))/\(D 23=true->cL=.bool (decide ((best.length:Int)<(x.size:Int))))/\(D 24=true->cG=.bool (decide ((best.length:Int)<(x.size:Int))))/\Inv w [] [] S1 w_,⟨ae,ae,ae,ae,ae,ae,ae,ae,ae,ae,ae,ae,ae,ae,ae,ae,ae,ae,ae,ae,ae,ae,ae,ae,ae,hI.draw⟩,⟨?_,?_,?_,?_,?_,?_,?_,?_,?_,?_,?_,?_,?_,?_,?_,?_,?_,?_,?_,?_,?_,?_,?_,?_,?_,trivial⟩,?_⟩
     ·intro D aY  cG cL ch cM cP cR cN cS cQ cO dj cZ dt cY cX cW cU bV bW db du dv dw dx dy w_
      rintro ⟨az,ay,aA,aB,aw,aD,aE,aI,aL,aP,aj,ao,aH,aM,aO,aN,aV,aU,aW,aX,a6,a5,a4,aZ,a8,hI⟩
      exact ⟨fun _=>rfl,ay,aA,aB,aw,aD,aE,aI,aL,aP,aj,ao,aH,aM,aO,aN,aV,aU,aW,aX,a6,a5,a4,aZ,a8,hI⟩
     ·intro D aY  cG cL ch cM cP cR cN cS cQ cO dj cZ dt cY cX cW cU bV bW db du dv dw dx dy w_
      rintro ⟨az,ay,aA,aB,aw,aD,aE,aI,aL,aP,aj,ao,aH,aM,aO,aN,aV,aU,aW,aX,a6,a5,a4,aZ,a8,hI⟩
      exact ⟨az,fun _=>rfl,aA,aB,aw,aD,aE,aI,aL,aP,aj,ao,aH,aM,aO,aN,aV,aU,aW,aX,a6,a5,a4,aZ,a8,hI⟩
     ·intro D aY ce iL cG cL ch cM cP cR cN cS cQ cO dj cZ dt cY cX cW cU bV bW db du dv dw dx dy w_
      rintro ⟨az,ay,aA,aB,aw,aD,aE,aI,aL,aP,aj,ao,aH,aM,aO,aN,aV,aU,aW,aX,a6,a5,a4,aZ,a8,hI⟩
      obtain rfl:=az ce
      obtain rfl:=ay iL
      refine bP (by omega) ?_
      exact ⟨az,ay,fun _=>rfl,aB,aw,aD,aE,aI,aL,aP,aj,ao,aH,aM,aO,aN,aV,aU,aW,aX,a6,a5,a4,aZ,a8,hI⟩
     ·intro D aY  cG cL ch cM cP cR cN cS cQ cO dj cZ dt cY cX cW cU bV bW db du dv dw dx dy w_
      rintro ⟨az,ay,aA,aB,aw,aD,aE,aI,aL,aP,aj,ao,aH,aM,aO,aN,aV,aU,aW,aX,a6,a5,a4,aZ,a8,hI⟩
      exact ⟨az,ay,aA,fun _=>rfl,aw,aD,aE,aI,aL,aP,aj,ao,aH,aM,aO,aN,aV,aU,aW,aX,a6,a5,a4,aZ,a8,hI⟩
     ·intro D aY dF cG cL ch cM cP cR cN cS cQ cO dj cZ dt cY cX cW cU bV bW db du dv dw dx dy w_
      rintro ⟨az,ay,aA,aB,aw,aD,aE,aI,aL,aP,aj,ao,aH,aM,aO,aN,aV,aU,aW,aX,a6,a5,a4,aZ,a8,hI⟩
      obtain rfl:=aB dF
      refine fX bi ?_
      exact ⟨az,ay,aA,aB,fun _=>rfl,aD,aE,aI,aL,aP,aj,ao,aH,aM,aO,aN,aV,aU,aW,aX,a6,a5,a4,aZ,a8,hI⟩
     ·intro D aY ev dS cG cL ch cM cP cR cN cS cQ cO dj cZ dt cY cX cW cU bV bW db du dv dw dx dy w_
      rintro ⟨az,ay,aA,aB,aw,aD,aE,aI,aL,aP,aj,ao,aH,aM,aO,aN,aV,aU,aW,aX,a6,a5,a4,aZ,a8,hI⟩
      obtain rfl:=aA ev
      obtain rfl:=aw dS
      refine Bc (by omega) ?_
      exact ⟨az,ay,aA,aB,aw,fun _=>rfl,aE,aI,aL,aP,aj,ao,aH,aM,aO,aN,aV,aU,aW,aX,a6,a5,a4,aZ,a8,hI⟩
     ·intro D aY dV cG cL ch cM cP cR cN cS cQ cO dj cZ dt cY cX cW cU bV bW db du dv dw dx dy w_
      rintro ⟨az,ay,aA,aB,aw,aD,aE,aI,aL,aP,aj,ao,aH,aM,aO,aN,aV,aU,aW,aX,a6,a5,a4,aZ,a8,hI⟩
      obtain rfl:=aD dV
      exact ⟨az,ay,aA,aB,aw,aD,fun _=>rfl,aI,aL,aP,aj,ao,aH,aM,aO,aN,aV,aU,aW,aX,a6,a5,a4,aZ,a8,hI⟩
     ·intro D aY c9 cG cL ch cM cP cR cN cS cQ cO dj cZ dt cY cX cW cU bV bW db du dv dw dx dy w_
      rintro ⟨az,ay,aA,aB,aw,aD,aE,aI,aL,aP,aj,ao,aH,aM,aO,aN,aV,aU,aW,aX,a6,a5,a4,aZ,a8,hI⟩
      obtain rfl:=aE c9
      refine ad ?_
      exact ⟨az,ay,aA,aB,aw,aD,aE,fun _=>rfl,aL,aP,aj,ao,aH,aM,aO,aN,aV,aU,aW,aX,a6,a5,a4,aZ,a8,hI⟩
     ·intro D aY c9 cG cL ch cM cP cR cN cS cQ cO dj cZ dt cY cX cW cU bV bW db du dv dw dx dy w_
      rintro ⟨az,ay,aA,aB,aw,aD,aE,aI,aL,aP,aj,ao,aH,aM,aO,aN,aV,aU,aW,aX,a6,a5,a4,aZ,a8,hI⟩
      obtain rfl:=aE c9
      refine ad ?_
      exact ⟨az,ay,aA,aB,aw,aD,aE,aI,fun _=>rfl,aP,aj,ao,aH,aM,aO,aN,aV,aU,aW,aX,a6,a5,a4,aZ,a8,hI⟩
     ·intro D aY c9 cG cL ch cM cP cR cN cS cQ cO dj cZ dt cY cX cW cU bV bW db du dv dw dx dy w_
      rintro ⟨az,ay,aA,aB,aw,aD,aE,aI,aL,aP,aj,ao,aH,aM,aO,aN,aV,aU,aW,aX,a6,a5,a4,aZ,a8,hI⟩
      obtain rfl:=aE c9
      refine ad ?_
      exact ⟨az,ay,aA,aB,aw,aD,aE,aI,aL,fun _=>rfl,aj,ao,aH,aM,aO,aN,aV,aU,aW,aX,a6,a5,a4,aZ,a8,hI⟩
     ·intro D aY c9 cG cL ch cM cP cR cN cS cQ cO dj cZ dt cY cX cW cU bV bW db du dv dw dx dy w_
      rintro ⟨az,ay,aA,aB,aw,aD,aE,aI,aL,aP,aj,ao,aH,aM,aO,aN,aV,aU,aW,aX,a6,a5,a4,aZ,a8,hI⟩
      obtain rfl:=aE c9
      refine ad ?_
      exact ⟨az,ay,aA,aB,aw,aD,aE,aI,aL,aP,fun _=>rfl,ao,aH,aM,aO,aN,aV,aU,aW,aX,a6,a5,a4,aZ,a8,hI⟩
     ·intro D aY FA mQ mt cG cL ch cM cP cR cN cS cQ cO dj cZ dt cY cX cW cU bV bW db du dv dw dx dy w_
      rintro ⟨az,ay,aA,aB,aw,aD,aE,aI,aL,aP,aj,ao,aH,aM,aO,aN,aV,aU,aW,aX,a6,a5,a4,aZ,a8,hI⟩
      obtain rfl:=aP FA
      obtain rfl:=aj mQ
      obtain rfl:=aE mt
      refine ad ?_; refine bP (by omega) ?_
      exact ⟨az,ay,aA,aB,aw,aD,aE,aI,aL,aP,aj,fun _=>rfl,aH,aM,aO,aN,aV,aU,aW,aX,a6,a5,a4,aZ,a8,hI⟩
     ·intro D aY el gh Hj GF cG cL ch cM cP cR cN cS cQ cO dj cZ dt cY cX cW cU bV bW db du dv dw dx dy w_
      rintro ⟨az,ay,aA,aB,aw,aD,aE,aI,aL,aP,aj,ao,aH,aM,aO,aN,aV,aU,aW,aX,a6,a5,a4,aZ,a8,hI⟩
      obtain rfl:=aI el
      obtain rfl:=aL gh
      obtain rfl:=ao Hj
      obtain rfl:=aE GF
      refine ad ?_; refine z4 bi (by omega) (by omega) ?_
      exact ⟨az,ay,aA,aB,aw,aD,aE,aI,aL,aP,aj,ao,fun _=>rfl,aM,aO,aN,aV,aU,aW,aX,a6,a5,a4,aZ,a8,hI⟩
     ·intro D aY c9 cG cL ch cM cP cR cN cS cQ cO dj cZ dt cY cX cW cU bV bW db du dv dw dx dy w_
      rintro ⟨az,ay,aA,aB,aw,aD,aE,aI,aL,aP,aj,ao,aH,aM,aO,aN,aV,aU,aW,aX,a6,a5,a4,aZ,a8,hI⟩
      obtain rfl:=aE c9
      refine ad ?_
      exact ⟨az,ay,aA,aB,aw,aD,aE,aI,aL,aP,aj,ao,aH,fun _=>rfl,aO,aN,aV,aU,aW,aX,a6,a5,a4,aZ,a8,hI⟩
     ·intro D aY c9 cG cL ch cM cP cR cN cS cQ cO dj cZ dt cY cX cW cU bV bW db du dv dw dx dy w_
      rintro ⟨az,ay,aA,aB,aw,aD,aE,aI,aL,aP,aj,ao,aH,aM,aO,aN,aV,aU,aW,aX,a6,a5,a4,aZ,a8,hI⟩
      obtain rfl:=aE c9
      refine ad ?_
      exact ⟨az,ay,aA,aB,aw,aD,aE,aI,aL,aP,aj,ao,aH,aM,fun _=>rfl,aN,aV,aU,aW,aX,a6,a5,a4,aZ,a8,hI⟩
     ·intro D aY iq xC mt cG cL ch cM cP cR cN cS cQ cO dj cZ dt cY cX cW cU bV bW db du dv dw dx dy w_
      rintro ⟨az,ay,aA,aB,aw,aD,aE,aI,aL,aP,aj,ao,aH,aM,aO,aN,aV,aU,aW,aX,a6,a5,a4,aZ,a8,hI⟩
      obtain rfl:=aM iq
      obtain rfl:=aO xC
      obtain rfl:=aE mt
      refine ad ?_; refine bh dd hj ?_
      exact ⟨az,ay,aA,aB,aw,aD,aE,aI,aL,aP,aj,ao,aH,aM,aO,fun _=>rfl,aV,aU,aW,aX,a6,a5,a4,aZ,a8,hI⟩
     ·intro D aY zN gg cG cL ch cM cP cR cN cS cQ cO dj cZ dt cY cX cW cU bV bW db du dv dw dx dy w_
      rintro ⟨az,ay,aA,aB,aw,aD,aE,aI,aL,aP,aj,ao,aH,aM,aO,aN,aV,aU,aW,aX,a6,a5,a4,aZ,a8,hI⟩
      obtain rfl:=aN zN
      obtain rfl:=aE gg
      refine ad ?_; refine dM bm ((hI.cellS hS).trans hcx) ?_
      exact ⟨az,ay,aA,aB,aw,aD,aE,aI,aL,aP,aj,ao,aH,aM,aO,aN,fun _=>rfl,aU,aW,aX,a6,a5,a4,aZ,a8,hI⟩
     ·intro D aY lp xI mt cG cL ch cM cP cR cN cS cQ cO dj cZ dt cY cX cW cU bV bW db du dv dw dx dy w_
      rintro ⟨az,ay,aA,aB,aw,aD,aE,aI,aL,aP,aj,ao,aH,aM,aO,aN,aV,aU,aW,aX,a6,a5,a4,aZ,a8,hI⟩
      obtain rfl:=aH lp
      obtain rfl:=aV xI
      obtain rfl:=aE mt
      refine ad ?_; refine cV ?_; rw [hq]
      exact ⟨az,ay,aA,aB,aw,aD,aE,aI,aL,aP,aj,ao,aH,aM,aO,aN,aV,fun _=>rfl,aW,aX,a6,a5,a4,aZ,a8,hI⟩
     ·intro D aY c9 GI cG cL ch cM cP cR cN cS cQ cO dj cZ dt cY cX cW cU bV bW db du dv dw dx dy w_
      rintro ⟨az,ay,aA,aB,aw,aD,aE,aI,aL,aP,aj,ao,aH,aM,aO,aN,aV,aU,aW,aX,a6,a5,a4,aZ,a8,hI⟩
      obtain rfl:=aE c9
      obtain rfl:=aU GI
      refine ai ?_
      exact ⟨az,ay,aA,aB,aw,aD,aE,aI,aL,aP,aj,ao,aH,aM,aO,aN,aV,aU,fun _=>rfl,aX,a6,a5,a4,aZ,a8,hI⟩
     ·intro D aY tS gg cG cL ch cM cP cR cN cS cQ cO dj cZ dt cY cX cW cU bV bW db du dv dw dx dy w_
      rintro ⟨az,ay,aA,aB,aw,aD,aE,aI,aL,aP,aj,ao,aH,aM,aO,aN,aV,aU,aW,aX,a6,a5,a4,aZ,a8,hI⟩
      obtain rfl:=aW tS
      exact ⟨az,ay,aA,aB,aw,aD,aE,aI,aL,aP,aj,ao,aH,aM,aO,aN,aV,aU,aW,fun _=>rfl,a6,a5,a4,aZ,a8,hI⟩
     ·intro D aY gU cG cL ch cM cP cR cN cS cQ cO dj cZ dt cY cX cW cU bV bW db du dv dw dx dy w_
      rintro ⟨az,ay,aA,aB,aw,aD,aE,aI,aL,aP,aj,ao,aH,aM,aO,aN,aV,aU,aW,aX,a6,a5,a4,aZ,a8,hI⟩
      obtain rfl:=aX gU
      refine ad ?_
      exact ⟨az,ay,aA,aB,aw,aD,aE,aI,aL,aP,aj,ao,aH,aM,aO,aN,aV,aU,aW,aX,fun _=>rfl,a5,a4,aZ,a8,hI⟩
     ·intro D aY gU cG cL ch cM cP cR cN cS cQ cO dj cZ dt cY cX cW cU bV bW db du dv dw dx dy w_
      rintro ⟨az,ay,aA,aB,aw,aD,aE,aI,aL,aP,aj,ao,aH,aM,aO,aN,aV,aU,aW,aX,a6,a5,a4,aZ,a8,hI⟩
      obtain rfl:=aX gU
      refine ad ?_
      exact ⟨az,ay,aA,aB,aw,aD,aE,aI,aL,aP,aj,ao,aH,aM,aO,aN,aV,aU,aW,aX,a6,fun _=>rfl,a4,aZ,a8,hI⟩
     ·intro D aY zC G7 cG cL ch cM cP cR cN cS cQ cO dj cZ dt cY cX cW cU bV bW db du dv dw dx dy w_
      rintro ⟨az,ay,aA,aB,aw,aD,aE,aI,aL,aP,aj,ao,aH,aM,aO,aN,aV,aU,aW,aX,a6,a5,a4,aZ,a8,hI⟩
      obtain rfl:=a5 zC
      obtain rfl:=aX G7
      refine ad ?_; refine fX bi ?_
      exact ⟨az,ay,aA,aB,aw,aD,aE,aI,aL,aP,aj,ao,aH,aM,aO,aN,aV,aU,aW,aX,a6,a5,fun _=>rfl,aZ,a8,hI⟩
     ·intro D aY z5 Ik Hy cG cL ch cM cP cR cN cS cQ cO dj cZ dt cY cX cW cU bV bW db du dv dw dx dy w_
      rintro ⟨az,ay,aA,aB,aw,aD,aE,aI,aL,aP,aj,ao,aH,aM,aO,aN,aV,aU,aW,aX,a6,a5,a4,aZ,a8,hI⟩
      obtain rfl:=a6 z5
      obtain rfl:=a4 Ik
      obtain rfl:=aX Hy
      refine ad ?_; refine dX ?_
      exact ⟨az,ay,aA,aB,aw,aD,aE,aI,aL,aP,aj,ao,aH,aM,aO,aN,aV,aU,aW,aX,a6,a5,a4,fun _=>rfl,a8,hI⟩
     ·intro D aY gU GY cG cL ch cM cP cR cN cS cQ cO dj cZ dt cY cX cW cU bV bW db du dv dw dx dy w_
      rintro ⟨az,ay,aA,aB,aw,aD,aE,aI,aL,aP,aj,ao,aH,aM,aO,aN,aV,aU,aW,aX,a6,a5,a4,aZ,a8,hI⟩
      obtain rfl:=aX gU
      obtain rfl:=aZ GY
      refine ai ?_
      exact ⟨az,ay,aA,aB,aw,aD,aE,aI,aL,aP,aj,ao,aH,aM,aO,aN,aV,aU,aW,aX,a6,a5,a4,aZ,fun _=>rfl,hI⟩
     intro D Fu ER E0 Fp FX Fe zx Ak Ae nZ n4 oG jh ft fm iW gN f0 f1 fM fF fI fK fL fN cG cL ch cM cP cR cN cS cQ cO dj cZ dt cY cX cW cU bV bW db du dv dw dx dy w_
     rintro ⟨az,ay,aA,aB,aw,aD,aE,aI,aL,aP,aj,ao,aH,aM,aO,aN,aV,aU,aW,aX,a6,a5,a4,aZ,a8,hI⟩
     obtain rfl:=a8 Fu
     obtain rfl:=aZ ER
     obtain rfl:=a4 E0
     obtain rfl:=a5 Fp
     obtain rfl:=a6 FX
     obtain rfl:=aX Fe
     obtain rfl:=aW zx
     obtain rfl:=aU Ak
     obtain rfl:=aV Ae
     obtain rfl:=aN nZ
     obtain rfl:=aO n4
     obtain rfl:=aM oG
     obtain rfl:=aH jh
     obtain rfl:=ao ft
     obtain rfl:=aj fm
     obtain rfl:=aP iW
     obtain rfl:=aL gN
     obtain rfl:=aI f0
     obtain rfl:=aE f1
     obtain rfl:=aD fM
     obtain rfl:=aw fF
     obtain rfl:=aB fI
     obtain rfl:=aA fK
     obtain rfl:=ay fL
     obtain rfl:=az fN
     clear az ay aA aB aw aD aE aI aL aP aj ao aH aM aO aN aV aU aW aX a6 a5 a4 aZ a8
     have hcut:cut s i (i+x.size)=bs x:=by rw [<- DV (cut s i (i+x.size)),hq']
     refine bk (fun hb=>?_) (fun hb=>?_)
     ·refine bh dd hj ?_
      refine dM bm ((hI.cellS hS).trans hcx) ?_
      refine ⟨bs x,rfl,by rw [<- hcut,FJ hlen]; omega,?_,hI⟩
      rw [if_pos ⟨decide_eq_true hlen,hcut,by omega⟩] at hbest
      exact hbest
     ·refine ⟨best,rfl,hbl,?_,hI⟩
      rw [if_neg] at hbest
      ·exact hbest
      ·rintro ⟨_,_,h3⟩
       omega
   ·skip
    refine ⟨fun D cG cL ch cM cP cR cN cS cQ cO dj cZ dt cY cX cW cU bV bW db du dv dw dx dy w_=>(D 0=true->dy=.int .i64 (i:Int))/\(D 1=true->dx=.int .i64 (x.size:Int))/\(D 2=true->dw=.int .i64 ((i+x.size:Nat):Int))/\(D 3=true->dv=.string (st s))/\(D 4=true->du=.int .i64 (s.length:Int))/\(D 5=true->db=.bool false)/\(D 6=true->bW=.bool false)/\(D 7=true->bV=undef)/\(D 8=true->cU=undef)/\(D 9=true->cW=undef)/\(D 10=true->cX=undef)/\(D 11=true->cY=undef)/\(D 12=true->dt=undef)/\(D 13=true->cZ=undef)/\(D 14=true->dj=undef)/\(D 15=true->cO=undef)/\(D 16=true->cQ=undef)/\(D 17=true->cS=undef)/\(D 18=true->cN=.bool false)/\(D 19=true->cR=.bool false)/\(D 20=true->cP=undef)/\(D 21=true->cM=undef)/\(D 22=true->ch=undef)/\(D 23=true->cL=undef)/\(D 24=true->cG=.bool false)/\Inv w [] [] S1 w_,⟨ae,ae,ae,ae,ae,ae,ae,ae,ae,ae,ae,ae,ae,ae,ae,ae,ae,ae,ae,ae,ae,ae,ae,ae,ae,hI.draw⟩,⟨?_,?_,?_,?_,?_,?_,?_,?_,?_,?_,?_,?_,?_,?_,?_,?_,?_,?_,?_,?_,?_,?_,?_,?_,?_,trivial⟩,?_⟩
    ·intro D aY  cG cL ch cM cP cR cN cS cQ cO dj cZ dt cY cX cW cU bV bW db du dv dw dx dy w_
     rintro ⟨az,ay,aA,aB,aw,aD,aE,aI,aL,aP,aj,ao,aH,aM,aO,aN,aV,aU,aW,aX,a6,a5,a4,aZ,a8,hI⟩
     exact ⟨fun _=>rfl,ay,aA,aB,aw,aD,aE,aI,aL,aP,aj,ao,aH,aM,aO,aN,aV,aU,aW,aX,a6,a5,a4,aZ,a8,hI⟩
    ·intro D aY  cG cL ch cM cP cR cN cS cQ cO dj cZ dt cY cX cW cU bV bW db du dv dw dx dy w_
     rintro ⟨az,ay,aA,aB,aw,aD,aE,aI,aL,aP,aj,ao,aH,aM,aO,aN,aV,aU,aW,aX,a6,a5,a4,aZ,a8,hI⟩
     exact ⟨az,fun _=>rfl,aA,aB,aw,aD,aE,aI,aL,aP,aj,ao,aH,aM,aO,aN,aV,aU,aW,aX,a6,a5,a4,aZ,a8,hI⟩
    ·intro D aY ce iL cG cL ch cM cP cR cN cS cQ cO dj cZ dt cY cX cW cU bV bW db du dv dw dx dy w_
     rintro ⟨az,ay,aA,aB,aw,aD,aE,aI,aL,aP,aj,ao,aH,aM,aO,aN,aV,aU,aW,aX,a6,a5,a4,aZ,a8,hI⟩
     obtain rfl:=az ce
     obtain rfl:=ay iL
     refine bP (by omega) ?_
     exact ⟨az,ay,fun _=>rfl,aB,aw,aD,aE,aI,aL,aP,aj,ao,aH,aM,aO,aN,aV,aU,aW,aX,a6,a5,a4,aZ,a8,hI⟩
    ·intro D aY  cG cL ch cM cP cR cN cS cQ cO dj cZ dt cY cX cW cU bV bW db du dv dw dx dy w_
     rintro ⟨az,ay,aA,aB,aw,aD,aE,aI,aL,aP,aj,ao,aH,aM,aO,aN,aV,aU,aW,aX,a6,a5,a4,aZ,a8,hI⟩
     exact ⟨az,ay,aA,fun _=>rfl,aw,aD,aE,aI,aL,aP,aj,ao,aH,aM,aO,aN,aV,aU,aW,aX,a6,a5,a4,aZ,a8,hI⟩
    ·intro D aY dF cG cL ch cM cP cR cN cS cQ cO dj cZ dt cY cX cW cU bV bW db du dv dw dx dy w_
     rintro ⟨az,ay,aA,aB,aw,aD,aE,aI,aL,aP,aj,ao,aH,aM,aO,aN,aV,aU,aW,aX,a6,a5,a4,aZ,a8,hI⟩
     obtain rfl:=aB dF
     refine fX bi ?_
     exact ⟨az,ay,aA,aB,fun _=>rfl,aD,aE,aI,aL,aP,aj,ao,aH,aM,aO,aN,aV,aU,aW,aX,a6,a5,a4,aZ,a8,hI⟩
    ·intro D aY ev dS cG cL ch cM cP cR cN cS cQ cO dj cZ dt cY cX cW cU bV bW db du dv dw dx dy w_
     rintro ⟨az,ay,aA,aB,aw,aD,aE,aI,aL,aP,aj,ao,aH,aM,aO,aN,aV,aU,aW,aX,a6,a5,a4,aZ,a8,hI⟩
     obtain rfl:=aA ev
     obtain rfl:=aw dS
     refine M4 (by omega) ?_
     exact ⟨az,ay,aA,aB,aw,fun _=>rfl,aE,aI,aL,aP,aj,ao,aH,aM,aO,aN,aV,aU,aW,aX,a6,a5,a4,aZ,a8,hI⟩
    ·intro D aY dV cG cL ch cM cP cR cN cS cQ cO dj cZ dt cY cX cW cU bV bW db du dv dw dx dy w_
     rintro ⟨az,ay,aA,aB,aw,aD,aE,aI,aL,aP,aj,ao,aH,aM,aO,aN,aV,aU,aW,aX,a6,a5,a4,aZ,a8,hI⟩
     obtain rfl:=aD dV
     exact ⟨az,ay,aA,aB,aw,aD,fun _=>rfl,aI,aL,aP,aj,ao,aH,aM,aO,aN,aV,aU,aW,aX,a6,a5,a4,aZ,a8,hI⟩
    ·intro D aY c9 cG cL ch cM cP cR cN cS cQ cO dj cZ dt cY cX cW cU bV bW db du dv dw dx dy w_
     rintro ⟨az,ay,aA,aB,aw,aD,aE,aI,aL,aP,aj,ao,aH,aM,aO,aN,aV,aU,aW,aX,a6,a5,a4,aZ,a8,hI⟩
     obtain rfl:=aE c9
     refine af (c:=false) (b:=true) (by decide) ?_
     exact ⟨az,ay,aA,aB,aw,aD,aE,fun _=>rfl,aL,aP,aj,ao,aH,aM,aO,aN,aV,aU,aW,aX,a6,a5,a4,aZ,a8,hI⟩
    ·intro D aY c9 cG cL ch cM cP cR cN cS cQ cO dj cZ dt cY cX cW cU bV bW db du dv dw dx dy w_
     rintro ⟨az,ay,aA,aB,aw,aD,aE,aI,aL,aP,aj,ao,aH,aM,aO,aN,aV,aU,aW,aX,a6,a5,a4,aZ,a8,hI⟩
     obtain rfl:=aE c9
     refine af (c:=false) (b:=true) (by decide) ?_
     exact ⟨az,ay,aA,aB,aw,aD,aE,aI,fun _=>rfl,aP,aj,ao,aH,aM,aO,aN,aV,aU,aW,aX,a6,a5,a4,aZ,a8,hI⟩
    ·intro D aY c9 cG cL ch cM cP cR cN cS cQ cO dj cZ dt cY cX cW cU bV bW db du dv dw dx dy w_
     rintro ⟨az,ay,aA,aB,aw,aD,aE,aI,aL,aP,aj,ao,aH,aM,aO,aN,aV,aU,aW,aX,a6,a5,a4,aZ,a8,hI⟩
     obtain rfl:=aE c9
     refine af (c:=false) (b:=true) (by decide) ?_
     exact ⟨az,ay,aA,aB,aw,aD,aE,aI,aL,fun _=>rfl,aj,ao,aH,aM,aO,aN,aV,aU,aW,aX,a6,a5,a4,aZ,a8,hI⟩
    ·intro D aY c9 cG cL ch cM cP cR cN cS cQ cO dj cZ dt cY cX cW cU bV bW db du dv dw dx dy w_
     rintro ⟨az,ay,aA,aB,aw,aD,aE,aI,aL,aP,aj,ao,aH,aM,aO,aN,aV,aU,aW,aX,a6,a5,a4,aZ,a8,hI⟩
     obtain rfl:=aE c9
     refine af (c:=false) (b:=true) (by decide) ?_
     exact ⟨az,ay,aA,aB,aw,aD,aE,aI,aL,aP,fun _=>rfl,ao,aH,aM,aO,aN,aV,aU,aW,aX,a6,a5,a4,aZ,a8,hI⟩
    ·intro D aY FA mQ mt cG cL ch cM cP cR cN cS cQ cO dj cZ dt cY cX cW cU bV bW db du dv dw dx dy w_
     rintro ⟨az,ay,aA,aB,aw,aD,aE,aI,aL,aP,aj,ao,aH,aM,aO,aN,aV,aU,aW,aX,a6,a5,a4,aZ,a8,hI⟩
     obtain rfl:=aP FA
     obtain rfl:=aj mQ
     obtain rfl:=aE mt
     refine af (c:=false) (b:=true) (by decide) ?_
     exact ⟨az,ay,aA,aB,aw,aD,aE,aI,aL,aP,aj,fun _=>rfl,aH,aM,aO,aN,aV,aU,aW,aX,a6,a5,a4,aZ,a8,hI⟩
    ·intro D aY el gh Hj GF cG cL ch cM cP cR cN cS cQ cO dj cZ dt cY cX cW cU bV bW db du dv dw dx dy w_
     rintro ⟨az,ay,aA,aB,aw,aD,aE,aI,aL,aP,aj,ao,aH,aM,aO,aN,aV,aU,aW,aX,a6,a5,a4,aZ,a8,hI⟩
     obtain rfl:=aI el
     obtain rfl:=aL gh
     obtain rfl:=ao Hj
     obtain rfl:=aE GF
     refine af (c:=false) (b:=true) (by decide) ?_
     exact ⟨az,ay,aA,aB,aw,aD,aE,aI,aL,aP,aj,ao,fun _=>rfl,aM,aO,aN,aV,aU,aW,aX,a6,a5,a4,aZ,a8,hI⟩
    ·intro D aY c9 cG cL ch cM cP cR cN cS cQ cO dj cZ dt cY cX cW cU bV bW db du dv dw dx dy w_
     rintro ⟨az,ay,aA,aB,aw,aD,aE,aI,aL,aP,aj,ao,aH,aM,aO,aN,aV,aU,aW,aX,a6,a5,a4,aZ,a8,hI⟩
     obtain rfl:=aE c9
     refine af (c:=false) (b:=true) (by decide) ?_
     exact ⟨az,ay,aA,aB,aw,aD,aE,aI,aL,aP,aj,ao,aH,fun _=>rfl,aO,aN,aV,aU,aW,aX,a6,a5,a4,aZ,a8,hI⟩
    ·intro D aY c9 cG cL ch cM cP cR cN cS cQ cO dj cZ dt cY cX cW cU bV bW db du dv dw dx dy w_
     rintro ⟨az,ay,aA,aB,aw,aD,aE,aI,aL,aP,aj,ao,aH,aM,aO,aN,aV,aU,aW,aX,a6,a5,a4,aZ,a8,hI⟩
     obtain rfl:=aE c9
     refine af (c:=false) (b:=true) (by decide) ?_
     exact ⟨az,ay,aA,aB,aw,aD,aE,aI,aL,aP,aj,ao,aH,aM,fun _=>rfl,aN,aV,aU,aW,aX,a6,a5,a4,aZ,a8,hI⟩
    ·intro D aY iq xC mt cG cL ch cM cP cR cN cS cQ cO dj cZ dt cY cX cW cU bV bW db du dv dw dx dy w_
     rintro ⟨az,ay,aA,aB,aw,aD,aE,aI,aL,aP,aj,ao,aH,aM,aO,aN,aV,aU,aW,aX,a6,a5,a4,aZ,a8,hI⟩
     obtain rfl:=aM iq
     obtain rfl:=aO xC
     obtain rfl:=aE mt
     refine af (c:=false) (b:=true) (by decide) ?_
     exact ⟨az,ay,aA,aB,aw,aD,aE,aI,aL,aP,aj,ao,aH,aM,aO,fun _=>rfl,aV,aU,aW,aX,a6,a5,a4,aZ,a8,hI⟩
    ·intro D aY zN gg cG cL ch cM cP cR cN cS cQ cO dj cZ dt cY cX cW cU bV bW db du dv dw dx dy w_
     rintro ⟨az,ay,aA,aB,aw,aD,aE,aI,aL,aP,aj,ao,aH,aM,aO,aN,aV,aU,aW,aX,a6,a5,a4,aZ,a8,hI⟩
     obtain rfl:=aN zN
     obtain rfl:=aE gg
     refine af (c:=false) (b:=true) (by decide) ?_
     exact ⟨az,ay,aA,aB,aw,aD,aE,aI,aL,aP,aj,ao,aH,aM,aO,aN,fun _=>rfl,aU,aW,aX,a6,a5,a4,aZ,a8,hI⟩
    ·intro D aY lp xI mt cG cL ch cM cP cR cN cS cQ cO dj cZ dt cY cX cW cU bV bW db du dv dw dx dy w_
     rintro ⟨az,ay,aA,aB,aw,aD,aE,aI,aL,aP,aj,ao,aH,aM,aO,aN,aV,aU,aW,aX,a6,a5,a4,aZ,a8,hI⟩
     obtain rfl:=aH lp
     obtain rfl:=aV xI
     obtain rfl:=aE mt
     refine af (c:=false) (b:=true) (by decide) ?_
     exact ⟨az,ay,aA,aB,aw,aD,aE,aI,aL,aP,aj,ao,aH,aM,aO,aN,aV,fun _=>rfl,aW,aX,a6,a5,a4,aZ,a8,hI⟩
    ·intro D aY c9 GI cG cL ch cM cP cR cN cS cQ cO dj cZ dt cY cX cW cU bV bW db du dv dw dx dy w_
     rintro ⟨az,ay,aA,aB,aw,aD,aE,aI,aL,aP,aj,ao,aH,aM,aO,aN,aV,aU,aW,aX,a6,a5,a4,aZ,a8,hI⟩
     obtain rfl:=aE c9
     obtain rfl:=aU GI
     refine ah ?_
     exact ⟨az,ay,aA,aB,aw,aD,aE,aI,aL,aP,aj,ao,aH,aM,aO,aN,aV,aU,fun _=>rfl,aX,a6,a5,a4,aZ,a8,hI⟩
    ·intro D aY tS gg cG cL ch cM cP cR cN cS cQ cO dj cZ dt cY cX cW cU bV bW db du dv dw dx dy w_
     rintro ⟨az,ay,aA,aB,aw,aD,aE,aI,aL,aP,aj,ao,aH,aM,aO,aN,aV,aU,aW,aX,a6,a5,a4,aZ,a8,hI⟩
     obtain rfl:=aW tS
     exact ⟨az,ay,aA,aB,aw,aD,aE,aI,aL,aP,aj,ao,aH,aM,aO,aN,aV,aU,aW,fun _=>rfl,a6,a5,a4,aZ,a8,hI⟩
    ·intro D aY gU cG cL ch cM cP cR cN cS cQ cO dj cZ dt cY cX cW cU bV bW db du dv dw dx dy w_
     rintro ⟨az,ay,aA,aB,aw,aD,aE,aI,aL,aP,aj,ao,aH,aM,aO,aN,aV,aU,aW,aX,a6,a5,a4,aZ,a8,hI⟩
     obtain rfl:=aX gU
     refine af (c:=false) (b:=true) (by decide) ?_
     exact ⟨az,ay,aA,aB,aw,aD,aE,aI,aL,aP,aj,ao,aH,aM,aO,aN,aV,aU,aW,aX,fun _=>rfl,a5,a4,aZ,a8,hI⟩
    ·intro D aY gU cG cL ch cM cP cR cN cS cQ cO dj cZ dt cY cX cW cU bV bW db du dv dw dx dy w_
     rintro ⟨az,ay,aA,aB,aw,aD,aE,aI,aL,aP,aj,ao,aH,aM,aO,aN,aV,aU,aW,aX,a6,a5,a4,aZ,a8,hI⟩
     obtain rfl:=aX gU
     refine af (c:=false) (b:=true) (by decide) ?_
     exact ⟨az,ay,aA,aB,aw,aD,aE,aI,aL,aP,aj,ao,aH,aM,aO,aN,aV,aU,aW,aX,a6,fun _=>rfl,a4,aZ,a8,hI⟩
    ·intro D aY zC G7 cG cL ch cM cP cR cN cS cQ cO dj cZ dt cY cX cW cU bV bW db du dv dw dx dy w_
     rintro ⟨az,ay,aA,aB,aw,aD,aE,aI,aL,aP,aj,ao,aH,aM,aO,aN,aV,aU,aW,aX,a6,a5,a4,aZ,a8,hI⟩
     obtain rfl:=a5 zC
     obtain rfl:=aX G7
     refine af (c:=false) (b:=true) (by decide) ?_
     exact ⟨az,ay,aA,aB,aw,aD,aE,aI,aL,aP,aj,ao,aH,aM,aO,aN,aV,aU,aW,aX,a6,a5,fun _=>rfl,aZ,a8,hI⟩
    ·intro D aY z5 Ik Hy cG cL ch cM cP cR cN cS cQ cO dj cZ dt cY cX cW cU bV bW db du dv dw dx dy w_
     rintro ⟨az,ay,aA,aB,aw,aD,aE,aI,aL,aP,aj,ao,aH,aM,aO,aN,aV,aU,aW,aX,a6,a5,a4,aZ,a8,hI⟩
     obtain rfl:=a6 z5
     obtain rfl:=a4 Ik
     obtain rfl:=aX Hy
     refine af (c:=false) (b:=true) (by decide) ?_
     exact ⟨az,ay,aA,aB,aw,aD,aE,aI,aL,aP,aj,ao,aH,aM,aO,aN,aV,aU,aW,aX,a6,a5,a4,fun _=>rfl,a8,hI⟩
    ·intro D aY gU GY cG cL ch cM cP cR cN cS cQ cO dj cZ dt cY cX cW cU bV bW db du dv dw dx dy w_
     rintro ⟨az,ay,aA,aB,aw,aD,aE,aI,aL,aP,aj,ao,aH,aM,aO,aN,aV,aU,aW,aX,a6,a5,a4,aZ,a8,hI⟩
     obtain rfl:=aX gU
     obtain rfl:=aZ GY
     refine ah ?_
     exact ⟨az,ay,aA,aB,aw,aD,aE,aI,aL,aP,aj,ao,aH,aM,aO,aN,aV,aU,aW,aX,a6,a5,a4,aZ,fun _=>rfl,hI⟩
    intro D Fu ER E0 Fp FX Fe zx Ak Ae nZ n4 oG jh ft fm iW gN f0 f1 fM fF fI fK fL fN cG cL ch cM cP cR cN cS cQ cO dj cZ dt cY cX cW cU bV bW db du dv dw dx dy w_
    rintro ⟨az,ay,aA,aB,aw,aD,aE,aI,aL,aP,aj,ao,aH,aM,aO,aN,aV,aU,aW,aX,a6,a5,a4,aZ,a8,hI⟩
    obtain rfl:=a8 Fu
    obtain rfl:=aZ ER
    obtain rfl:=a4 E0
    obtain rfl:=a5 Fp
    obtain rfl:=a6 FX
    obtain rfl:=aX Fe
    obtain rfl:=aW zx
    obtain rfl:=aU Ak
    obtain rfl:=aV Ae
    obtain rfl:=aN nZ
    obtain rfl:=aO n4
    obtain rfl:=aM oG
    obtain rfl:=aH jh
    obtain rfl:=ao ft
    obtain rfl:=aj fm
    obtain rfl:=aP iW
    obtain rfl:=aL gN
    obtain rfl:=aI f0
    obtain rfl:=aE f1
    obtain rfl:=aD fM
    obtain rfl:=aw fF
    obtain rfl:=aB fI
    obtain rfl:=aA fK
    obtain rfl:=ay fL
    obtain rfl:=az fN
    clear az ay aA aB aw aD aE aI aL aP aj ao aH aM aO aN aV aU aW aX a6 a5 a4 aZ a8
    refine ba (fun hb=>by cases hb) (fun _=>?_)
    refine ⟨best,rfl,hbl,?_,hI⟩
    rw [if_neg] at hbest
    ·exact hbest
    ·rintro ⟨h1,_⟩
     rw [decide_eq_true_eq] at h1
     exact hlen h1
  intro t7 _ _ _ _ _ _ _ _ _ _ _ _ _ _ _ _ _ _ _ _ _ _ _ _ _ _ _ _ _ _ _ _ _ _ _ w'
  rintro ⟨best',rfl,hbl',hb',hI⟩
  refine bP (by omega) ?_
  exact ⟨⟨j+1,best',hj,rfl,rfl,hbl',hb',hI⟩,by simp [intOf]; omega⟩
 ·have:j=signs.length:=by omega
  subst this
  rw [List.drop_length,il] at hbest
  rw [<- hbest] at hnm
  refine cV ?_
  refine bk (fun hb=>?_) (fun hb=>?_)
  ·have:best=[]:=by rw [<- DV best,hb]
   exact gQ hI hle (by rw [hnm,if_pos this]; rfl)
  ·have:¬ best=[]:=fun h=>hb (by rw [h])
   refine fX bi ?_
   refine bP (by omega) ?_
   exact gQ hI hle (by rw [hnm,if_neg this]; rfl)
end
theorem wA (s:Bs) (i:Nat):∀ (l:List ByteArray) (b:Bs),(∀ x∈l,x.size<=3)->b.length<=3->i+b.length<=s.length->i+(il s i l b).length<=s.length/\(il s i l b).length<=3
 | [],b,_,h2,h3=>⟨h3,h2⟩
 | x::l,b,h1,h2,h3=>by
  rw [il]
  have hx:(bs x).length=x.size:=Array.length_toList
  split
  ·rename_i h
   exact wA s i l _ (fun y hy=>h1 y (List.mem_cons_of_mem _ hy)) (by rw [hx]; exact h1 x (List.mem_cons_self ..)) (by rw [hx]; exact of_decide_eq_true h.1)
  ·exact wA s i l _ (fun y hy=>h1 y (List.mem_cons_of_mem _ hy)) h2 h3
theorem K6 (s:Bs):∀ (n e:Nat),e<=yB s n e/\yB s n e<=e+n
 | 0,e=>by simp [yB]
 | n+1,e=>by
  rw [yB]
  split
  ·have:=K6 s n (e+1); omega
  ·omega
theorem uH {s:Bs} {i:Nat} {n:Bs} {e:Nat} (hi:i<s.length) (h:uw s i=some (n,e)):i<e/\e<=s.length/\n.length<=6/\n≠[]:=by
 have hl:=K6 s (s.length - i) i
 have hb:=wA s i signs [] Gy (by simp) (by simpa using Nat.le_of_lt hi)
 unfold uw at h
 simp only [] at h
 split at h
 ·cases h
 ·split at h
  ·simp only [Option.some.injEq,Prod.mk.injEq] at h
   obtain ⟨rfl,rfl⟩:=h
   rename_i h1 h2
   have hc:=FJ (s:=s) (a:=i) (b:=yB s (s.length - i) i) (by omega)
   refine ⟨h2,by omega,by omega,fun h=>?_⟩
   rw [h] at hc
   simp at hc
   omega
  ·split at h
   ·cases h
   ·simp only [Option.some.injEq,Prod.mk.injEq] at h
    obtain ⟨rfl,rfl⟩:=h
    rename_i h3
    have:0<(il s i signs []).length:=by
     cases he:il s i signs [] with
     | nil=>exact absurd he h3
     | cons a l=>simp
    exact ⟨by omega,by omega,by omega,h3⟩
def opV (o:Option (Bs × Nat)) (i:Nat):Value:=match o with
 | none=>.tuple #[.string ⟨#[]⟩,.int .i64 (i:Int)]
 | some (n,e)=>.tuple #[.string (st n),.int .i64 (e:Int)]
theorem Nt {s:Bs} {i:Nat} {n:Bs} {e:Nat} (h:opF s i=some (n,e)):i<e/\e<=s.length/\n.length<=6/\n≠[]:=by
 unfold opF at h
 obtain ⟨fr,hfr⟩:∃ fr,fr=if sgn s i 32=true then i+1 else i:=⟨_,rfl⟩
 simp only [<- hfr] at h
 have hfi:i<=fr:=by rw [hfr]; split <;> omega
 split at h
 ·cases h
 rename_i hlt
 split at h
 ·cases h
 rename_i nm nx hnm
 obtain ⟨h1,h2,h3,h4⟩:=uH (by omega) hnm
 split at h
 ·cases h
 rename_i hc
 simp only [not_or,not_and,Bool.not_eq_false] at hc
 simp only [Option.some.injEq,Prod.mk.injEq] at h
 obtain ⟨rfl,rfl⟩:=h
 refine ⟨by split <;> omega,?_,h3,h4⟩
 split
 ·rename_i hw
  have:=hO (hc.2.2 hw)
  omega
 ·exact h2
section
attribute [local irreducible] Run CondV ag be
theorem KD {s:Bs} {i:Nat} (hs:s.length<=100000) (hi:i<=s.length) (S:aF):Pure Tryz.prog NS [.string (st s),.int .i64 (i:Int)] S (opV (opF s i) i):=by
 intro w hI
 refine Ep ?_
 unfold DK
 obtain ⟨fr,hfr⟩:∃ fr,fr=if sgn s i 32=true then i+1 else i:=⟨_,rfl⟩
 have hfi:i<=fr/\fr<=i+1:=by rw [hfr]; split <;> omega
 obtain ⟨r,hr⟩:∃ r,r=opF s i:=⟨_,rfl⟩
 rw [<- hr]
 unfold opF at hr
 simp only [<- hfr] at hr
 refine ⟨fun t w'=>t=.int .i64 (fr:Int)/\Inv w [] [] S w',?_,?_⟩
 ·refine Run.callPure dE dH hI (dn s i 32 S) fun w' hI=>?_
  refine ba (fun hb=>?_) (fun hb=>?_)
  ·refine bP (by omega) ?_
   rw [if_pos hb] at hfr
   exact ⟨by rw [hfr]; congr 1,hI⟩
  ·rw [if_neg (by rw [hb]; decide)] at hfr
   exact ⟨by rw [hfr],hI⟩
 intro t6 _ _ _ _ _ w'
 rintro ⟨rfl,hI⟩
 refine fX bi ?_
 refine lP ?_
 refine bk (fun hb=>?_) (fun hb=>?_)
 ·rw [if_pos (by omega)] at hr
  exact done hI (by rw [hr]; rfl)
 rw [if_neg (by omega)] at hr
 refine Run.callPure xt xz hI (th (by omega) hs S) fun w' hI=>?_
 cases hnm:uw s fr with
 | none=>
  rw [hnm] at hr
  simp only [] at hr
  simp only [Lz]
  refine a7 rfl ?_
  refine a7 rfl ?_
  refine ⟨fun t w'=>t=.bool true/\Inv w [] [] S w',?_,?_⟩
  ·refine zv (by omega) ?_
   repeat (first|refine ad ?_|refine af (by decide) ?_|refine ab ?_|refine ai ?_|refine ah ?_)
   exact ⟨rfl,hI⟩
  intro t33 _ _ _ _ _ _ w'
  rintro ⟨rfl,hI⟩
  exact ba (fun _=>done hI (by rw [hr]; rfl)) (fun hb=>by cases hb)
 | some q=>
  obtain ⟨nm,nx⟩:=q
  rw [hnm] at hr
  simp only [] at hr
  obtain ⟨h1,h2,h3,h4⟩:=uH (by omega) hnm
  simp only [Lz]
  refine a7 (v:=.string (st nm)) rfl ?_
  refine a7 (v:=.int .i64 (nx:Int)) rfl ?_
  refine ⟨fun t w'=>t=.bool (decide (dp (st nm)=0))/\Inv w [] [] S w',?_,?_⟩
  ·refine fq (by omega) ?_
   repeat (first|refine ad ?_|refine af (by decide) ?_|refine ab ?_|refine ai ?_|refine ah ?_)
   refine Run.callPure fW fV hI (ez _ S) fun w' hI=>?_
   refine bR ?_
   repeat (first|refine ad ?_|refine af (by decide) ?_|refine ab ?_|refine ai ?_|refine ah ?_)
   exact ⟨rfl,hI⟩
  intro t33 _ _ _ _ _ _ w'
  rintro ⟨rfl,hI⟩
  refine bk (fun hb=>?_) (fun hb=>?_)
  ·rw [if_pos (.inl hb)] at hr
   exact done hI (by rw [hr]; rfl)
  obtain ⟨word,hword⟩:∃ word,word=(decide (nm=[105,115]) || decide (nm=[109,111,100])):=⟨_,rfl⟩
  rw [<- hword] at hr
  refine ⟨fun t w'=>t=.bool word/\Inv w [] [] S w',?_,?_⟩
  ·refine zu (b:=[105,115]) ?_
   cases h5:decide (nm=[105,115])
   ·repeat (first|refine ad ?_|refine af (by decide) ?_|refine ab ?_|refine ai ?_|refine ah ?_)
    refine zu (b:=[109,111,100]) ?_
    repeat (first|refine ad ?_|refine af (by decide) ?_|refine ab ?_|refine ai ?_|refine ah ?_)
    exact ⟨by rw [hword,h5,Bool.false_or],hI⟩
   ·repeat (first|refine ad ?_|refine af (by decide) ?_|refine ab ?_|refine ai ?_|refine ah ?_)
    exact ⟨by rw [hword,h5,Bool.true_or],hI⟩
  intro t9 _ _ _ _ _ _ w'
  rintro ⟨rfl,hI⟩
  refine ⟨fun t w'=>t=.bool (decide (word≠decide (i<fr)) || (word && !sgn s nx 32))/\Inv w [] [] S w',?_,?_⟩
  ·refine dX ?_
   refine Km jK ?_
   have e1:decide ((i:Int)<(fr:Int))=decide (i<fr):=by rw [decide_eq_decide]; omega
   rw [e1]
   cases h6:decide (i<fr) <;> cases word
   ·repeat (first|refine ad ?_|refine af (by decide) ?_|refine ab ?_|refine ai ?_|refine ah ?_)
    exact ⟨by rfl,hI⟩
   ·repeat (first|refine ad ?_|refine af (by decide) ?_|refine ab ?_|refine ai ?_|refine ah ?_)
    exact ⟨by rfl,hI⟩
   ·repeat (first|refine ad ?_|refine af (by decide) ?_|refine ab ?_|refine ai ?_|refine ah ?_)
    exact ⟨by rfl,hI⟩
   ·repeat (first|refine ad ?_|refine af (by decide) ?_|refine ab ?_|refine ai ?_|refine ah ?_)
    refine Run.callPure dE dH hI (dn s nx 32 S) fun w' hI=>?_
    refine cc ?_
    repeat (first|refine ad ?_|refine af (by decide) ?_|refine ab ?_|refine ai ?_|refine ah ?_)
    exact ⟨by simp,hI⟩
  intro t54 _ _ _ _ _ _ _ _ _ _ _ _ _ w'
  rintro ⟨rfl,hI⟩
  refine ba (fun hb'=>?_) (fun hb'=>?_)
  ·rw [if_pos] at hr
   ·exact done hI (by rw [hr]; rfl)
   ·rw [Bool.or_eq_true,decide_eq_true_eq,Bool.and_eq_true,Bool.not_eq_true'] at hb'
    exact .inr hb'
  ·rw [if_neg] at hr
   ·refine ⟨fun t w'=>t=.int .i64 ((if word=true then nx+1 else nx:Nat):Int)/\Inv w [] [] S w',?_,?_⟩
    ·refine ba (fun hw=>?_) (fun hw=>?_)
     ·refine bP (by omega) ?_
      exact ⟨by rw [if_pos hw]; congr 1,hI⟩
     ·exact ⟨by rw [if_neg (by rw [hw]; decide)],hI⟩
    intro t8 _ _ _ w'
    rintro ⟨rfl,hI⟩
    exact done hI (by rw [hr]; rfl)
   ·rw [Bool.or_eq_false_iff,decide_eq_false_iff_not] at hb'
    rintro (h|h|⟨h,h'⟩)
    ·exact hb h
    ·exact hb'.1 h
    ·rw [h,h'] at hb'
     simp at hb'
end
end Go.Proofs.YtemmhhdnlbmicaaGreat

/- Publishing what a call owns; what is published since. -/
namespace Go.Proofs.YtemmhhdnlbmicaaGreat
open Go Go.RowKit
/- a tree of one's own, published -/
theorem Inv.pubExt {w0 w:World} {X:List Nat} {A:List Item} {S:aF} {L:bG} (h:Inv w0 X (A++bS L) S w) :
  ∃ S',Inv w0 X A S' w/\Ext w0.heap.size X S S'/\Ins S' L:=by
 obtain ⟨S',h1,h2,h3,h4⟩:=h.publishAll L
 refine ⟨S',h1,⟨h2,fun b o hb=>?_⟩,h3⟩
 rcases h4 b o hb with h5|h5
 ·exact .inl h5
 ·right
  exact h.new b (by rw [cI]; exact List.mem_append_right _ h5)
theorem Inv.pub1 {w0 w:World} {X:List Nat} {A:List Item} {S:aF} {b:Nat} {o:Obj} (h:Inv w0 X (A++[.blk b o]) S w) :
  ∃ S',Inv w0 X A S' w/\Ext w0.heap.size X S S'/\S' b=some o:=by
 obtain ⟨S',h1,h2,h3⟩:=Inv.pubExt (A:=A) (L:=[(b,o)]) h
 exact ⟨S',h1,h2,h3 _ (List.mem_singleton.2 rfl)⟩
theorem Rows.monoR {α:Type} {k:Nat} {R R':List Value->α->Prop} {css:List (List Value)} {ys:List α} (h:Rows k R css ys) (hR:∀ cs y,R cs y->R' cs y):Rows k R' css ys:=⟨h.hc,h.hk,fun i h1 h2=>hR _ _ (h.hR i h1 h2)⟩
theorem Rows.one {α:Type} {k:Nat} {R:List Value->α->Prop} {cs:List Value} {y:α} (hR:R cs y) (hl:cs.length=k):Rows k R [cs] [y]:=by
 have:=(Rows.nil k R).snoc hR hl
 exact this
section
variable {P:Program} {w w0:World} {X:List Nat} {L:List Item} {S:aF} {K:Value->World->Prop}
theorem Run.call0E {f:FuncId} {fn:Func} {args:List Value} {Post:Value->List Item->aF->Prop}
  (hf:P.funcs[f]?=some fn) (hn:(fn.name == "runtime.NumGoroutine" || fn.body.isNone)=false) (h:Inv w0 X L S w) (hc:Tri P f args [] S Post)
  (hk:∀ v I' S' w',Post v I' S'->Ext w0.heap.size X S S'->Inv w0 X (L++I') S' w'->K v w'):Run P (aG (.func (.func f) #[] #[]) args) w K:=by
 refine Run.callP hf hn ((hc w h.nil.begin).mono ?_)
 rintro e w' ⟨v,I',S',rfl,hI,hE,hP⟩
 refine hk v I' S' w' hP ⟨hE.1,fun b o hb=>?_⟩ (Inv.step (A:=L) (B:=[]) (by simpa using h) hI hE.2)
 rcases hE.2 b o hb with h1|h1|h1
 ·exact .inl h1
 ·simp [bY] at h1
 ·exact .inr (.inr (Nat.le_trans h.size h1))
end
theorem Ext.trans {n:Nat} {Y:List Nat} {S S' S'':aF} (h:Ext n Y S S') (h':Ext n Y S' S''):Ext n Y S S'':=by
 refine ⟨h.1.trans h'.1,fun b o hb=>?_⟩
 rcases h'.2 b o hb with h1|h1
 ·exact h.2 b o h1
 ·exact .inr h1
section
variable {P:Program} {w w0:World} {X:List Nat} {A I:List Item} {S:aF} {K:Value->World->Prop}
theorem NG {f:FuncId} {args:List Value} {Post:Value->List Item->aF->Prop} (h:Inv w0 X (A++I) S w) (hc:Tri P f args I S Post) :
  Calls P f args.toArray w fun e w'=>∃ v I' S',e=.returned v/\Inv w0 X (A++I') S' w'/\Ext w0.heap.size X S S'/\Post v I' S':=by
 refine (hc w (h.sub (List.sublist_append_right A I)).begin).mono ?_
 rintro e w' ⟨v,I',S',rfl,hI,hE,hP⟩
 refine ⟨v,I',S',rfl,Inv.step h hI hE.2,⟨hE.1,fun b o hb=>?_⟩,hP⟩
 rcases hE.2 b o hb with h1|h1|h1
 ·exact .inl h1
 ·exact .inr (h.new b (by rw [cI]; exact List.mem_append_right _ h1))
 ·exact .inr (.inr (Nat.le_trans h.size h1))
theorem Run.callE {f:FuncId} {fn:Func} {args:List Value} {Post:Value->List Item->aF->Prop}
  (hf:P.funcs[f]?=some fn) (hn:(fn.name == "runtime.NumGoroutine" || fn.body.isNone)=false) (h:Inv w0 X (A++I) S w) (hc:Tri P f args I S Post)
  (hk:∀ v I' S' w',Post v I' S'->Ext w0.heap.size X S S'->Inv w0 X (A++I') S' w'->K v w'):Run P (aG (.func (.func f) #[] #[]) args) w K:=by
 refine Run.callP hf hn ((NG h hc).mono ?_)
 rintro e w' ⟨v,I',S',rfl,hI,hE,hP⟩
 exact hk v I' S' w' hP hE hI
theorem Run.callVE {f:FuncId} {fn:Func} {cap args:List Value} {Post:Value->List Item->aF->Prop}
  (hf:P.funcs[f]?=some fn) (hn:(fn.name == "runtime.NumGoroutine" || fn.body.isNone)=false) (h:Inv w0 X (A++I) S w) (hc:Tri P f (args++cap) I S Post)
  (hk:∀ v I' S' w',Post v I' S'->Ext w0.heap.size X S S'->Inv w0 X (A++I') S' w'->K v w'):Run P (aG (fv f cap) args) w K:=by
 unfold Run
 rw [Dg hf hn]
 refine (NG h hc).mono ?_
 rintro e w' ⟨v,I',S',rfl,hI,hE,hP⟩
 exact hk v I' S' w' hP hE hI
end
theorem Inv.lendExt {w0 w:World} {X:List Nat} {A:List Item} {S:aF} {v:Value} {e:TypeId} {k:Nat} {css:List (List Value)} (h:Inv w0 X (A++[bj v e k css]) S w) :
  ∃ S',Ext w0.heap.size X S S'/\RowRd S' v e k css.length css.flatten/\Inv w0 X A S' w:=by
 obtain ⟨hl,ho⟩:=h.openRow
 rcases ho with ⟨rfl,h0⟩|⟨g,cap,cur,rfl,hnc,hcm,hcs,ht,hI⟩
 ·exact ⟨S,Ext.refl _ _ _,⟨hl,.inl ⟨rfl,h0⟩⟩,h.sub (List.sublist_append_left _ _)⟩
 ·obtain ⟨S',h1,h2,h3⟩:=Inv.pub1 (A:=A) hI
  exact ⟨S',h2,⟨hl,.inr ⟨g,cap,cur,rfl,h3,hnc,hcm,hcs,ht⟩⟩,h1⟩

end Go.Proofs.YtemmhhdnlbmicaaGreat
