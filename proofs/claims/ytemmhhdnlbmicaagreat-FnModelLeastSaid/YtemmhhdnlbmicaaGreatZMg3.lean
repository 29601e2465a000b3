/- Bytes, numbers, names and operators in texts: spec.l1Sign and its kin. (printed by gen_byt.py) -/
import Derived.Test.YtemmhhdnlbmicaaGreatZMg2
import Derived.Test.YtemmhhdnlbmicaaGreatZMgF
import Derived.Test.YtemmhhdnlbmicaaGreatZMg0
namespace Go.Proofs.YtemmhhdnlbmicaaGreat
open Go Go.RowKit
theorem g5 {s:Bs} {i:Nat} (h:i<s.length) (c:Nat):sgn s i c=decide (s[i].toNat=c):=by simp [sgn,List.getElem?_eq_getElem h]
theorem Le {s:Bs} {i:Nat} (h:¬ i<s.length) (c:Nat):sgn s i c=false:=by simp [sgn,List.getElem?_eq_none (Nat.le_of_not_lt h)]
theorem jd {s:Bs} {i:Nat} (h:i<s.length) (a b:Nat):btw s i a b=(decide (a<=s[i].toNat) && decide (s[i].toNat<=b)):=by simp [btw,List.getElem?_eq_getElem h]
theorem Iz {s:Bs} {i:Nat} (h:¬ i<s.length) (a b:Nat):btw s i a b=false:=by simp [btw,List.getElem?_eq_none (Nat.le_of_not_lt h)]
theorem AR {s:Bs} {i a b:Nat} (h:btw s i a b=true):i<s.length:=by
 rcases Nat.lt_or_ge i s.length with h1|h1
 ·exact h1
 ·rw [Iz (by omega)] at h; cases h
theorem gf {s:Bs} {i c:Nat} (h:sgn s i c=true):i<s.length:=by
 rcases Nat.lt_or_ge i s.length with h1|h1
 ·exact h1
 ·rw [Le (by omega)] at h; cases h
section
attribute [local irreducible] Run CondV aj bd
theorem cB (s:Bs) (i c:Nat) (S:az):Pure Tryz.prog Ib [.string (st s),.int .i64 (i:Int),.int .u8 (c:Int)] S (.bool (sgn s i c)):=by
 intro w hI
 refine zY ?_
 unfold we;dsimp only
 refine lu (by omega) ?_
 repeat (first|refine ad ?_|refine af (by decide) ?_|refine ac ?_|refine ah ?_|refine ag ?_)
 refine fA bg ?_
 by_cases h:i<s.length
 ·refine zy (by omega) ?_
  repeat (first|refine ad ?_|refine af (by decide) ?_|refine ac ?_|refine ah ?_|refine ag ?_)
  refine ec bg h ?_
  refine bO ?_
  repeat (first|refine ad ?_|refine af (by decide) ?_|refine ac ?_|refine ah ?_|refine ag ?_)
  refine done hI ?_
  rw [g5 h]
  congr 1
  rw [decide_eq_decide]
  omega
 ·refine eD (by omega) ?_
  repeat (first|refine ad ?_|refine af (by decide) ?_|refine ac ?_|refine ah ?_|refine ag ?_)
  exact done hI (by rw [Le h])
theorem eY (s:Bs) (i:Nat) (S:az):Pure Tryz.prog GF [.string (st s),.int .i64 (i:Int)] S (.bool (dig s i)):=by
 intro w hI
 refine xU ?_
 unfold sJ;dsimp only
 refine lu (by omega) ?_
 repeat (first|refine ad ?_|refine af (by decide) ?_|refine ac ?_|refine ah ?_|refine ag ?_)
 refine fA bg ?_
 by_cases h:i<s.length
 ·refine zy (by omega) ?_
  repeat (first|refine ad ?_|refine af (by decide) ?_|refine ac ?_|refine ah ?_|refine ag ?_)
  refine ec bg h ?_
  rw [dig,jd h]
  by_cases h2:48<=s[i].toNat
  ·refine lu (by omega) ?_
   repeat (first|refine ad ?_|refine af (by decide) ?_|refine ac ?_|refine ah ?_|refine ag ?_)
   refine ec bg h ?_
   refine fK ?_
   repeat (first|refine ad ?_|refine af (by decide) ?_|refine ac ?_|refine ah ?_|refine ag ?_)
   refine done hI ?_
   rw [decide_eq_true h2,Bool.true_and]
   congr 1
   rw [decide_eq_decide]
   omega
  ·refine pa (by omega) ?_
   repeat (first|refine ad ?_|refine af (by decide) ?_|refine ac ?_|refine ah ?_|refine ag ?_)
   exact done hI (by rw [decide_eq_false h2,Bool.false_and])
 ·refine eD (by omega) ?_
  repeat (first|refine ad ?_|refine af (by decide) ?_|refine ac ?_|refine ah ?_|refine ag ?_)
  exact done hI (by rw [dig,Iz h])
theorem np (s:Bs) (i:Nat) (S:az):Pure Tryz.prog Gs [.string (st s),.int .i64 (i:Int)] S (.bool (sml s i)):=by
 intro w hI
 refine yq ?_
 unfold tP;dsimp only
 refine lu (by omega) ?_
 repeat (first|refine ad ?_|refine af (by decide) ?_|refine ac ?_|refine ah ?_|refine ag ?_)
 refine fA bg ?_
 by_cases h:i<s.length
 ·refine zy (by omega) ?_
  repeat (first|refine ad ?_|refine af (by decide) ?_|refine ac ?_|refine ah ?_|refine ag ?_)
  refine ec bg h ?_
  rw [sml,jd h]
  by_cases h2:97<=s[i].toNat
  ·refine lu (by omega) ?_
   repeat (first|refine ad ?_|refine af (by decide) ?_|refine ac ?_|refine ah ?_|refine ag ?_)
   refine ec bg h ?_
   refine fK ?_
   repeat (first|refine ad ?_|refine af (by decide) ?_|refine ac ?_|refine ah ?_|refine ag ?_)
   refine done hI ?_
   rw [decide_eq_true h2,Bool.true_and]
   congr 1
   rw [decide_eq_decide]
   omega
  ·refine pa (by omega) ?_
   repeat (first|refine ad ?_|refine af (by decide) ?_|refine ac ?_|refine ah ?_|refine ag ?_)
   exact done hI (by rw [decide_eq_false h2,Bool.false_and])
 ·refine eD (by omega) ?_
  repeat (first|refine ad ?_|refine af (by decide) ?_|refine ac ?_|refine ah ?_|refine ag ?_)
  exact done hI (by rw [sml,Iz h])
end
theorem JF {s:Bs} {i:Nat} (h:i<s.length):dig s i=true↔48<=s[i].toNat/\s[i].toNat<=57:=by
 rw [dig,jd h,Bool.and_eq_true,decide_eq_true_eq,decide_eq_true_eq]
theorem KO {d:Bs} {j:Nat} (h:j<d.length) (m:Nat):Cj (d.drop j) m=Cj (d.drop (j+1)) (m * 10+(d[j].toNat - 48)):=by
 rw [List.drop_eq_getElem_cons h,Cj]
section
attribute [local irreducible] Run CondV aj bd
theorem Ee (d:Bs) (hd:∀ i,i<d.length->dig d i=true) (h0:0<d.length) (h4:d.length<=4) (hz:¬ (sgn d 0 48=true/\1<d.length)) (S:az) :
  Pure Tryz.prog HC [.string (st d)] S (.tuple #[.int .i64 ((Cj d 0:Nat):Int),.bool true]):=by
 intro w hI
 refine zr ?_
 unfold wI;dsimp only
 have hd0:=(JF h0).1 (hd 0 h0)
 refine ⟨fun t w'=>t=.bool false/\Inv w [] [] S w',?_,?_⟩
 ·refine fA bg ?_
  refine Ih (by omega) ?_
  repeat (first|refine ad ?_|refine af (by decide) ?_|refine ac ?_|refine ah ?_|refine ag ?_)
  refine ec (i:=0) bg h0 ?_
  refine er (by omega) ?_
  repeat (first|refine ad ?_|refine af (by decide) ?_|refine ac ?_|refine ah ?_|refine ag ?_)
  exact ⟨rfl,hI⟩
 intro t4 _ _ _ _ _ _ _ _ w'
 rintro ⟨rfl,hI⟩
 refine ⟨fun t w'=>t=.string (st d)/\Inv w [] [] S w',?_,?_⟩
 ·exact a8 (fun hb=>by cases hb) (fun _=>⟨rfl,hI⟩)
 intro t0 _ _ _ w'
 rintro ⟨rfl,hI⟩
 refine ⟨fun t w'=>t=.bool false/\Inv w [] [] S w',?_,?_⟩
 ·refine fA bg ?_
  refine er (by omega) ?_
  repeat (first|refine ad ?_|refine af (by decide) ?_|refine ac ?_|refine ah ?_|refine ag ?_)
  refine fA bg ?_
  refine ki (by omega) ?_
  repeat (first|refine ad ?_|refine af (by decide) ?_|refine ac ?_|refine ah ?_|refine ag ?_)
  refine ec (i:=0) bg h0 ?_
  by_cases hs:d[0].toNat=48
  ·refine fM (by omega) ?_
   repeat (first|refine ad ?_|refine af (by decide) ?_|refine ac ?_|refine ah ?_|refine ag ?_)
   refine fA bg ?_
   refine ki (by
    have:¬ 1<d.length:=fun h=>hz ⟨by rw [g5 h0,hs]; rfl,h⟩
    omega) ?_
   repeat (first|refine ad ?_|refine af (by decide) ?_|refine ac ?_|refine ah ?_|refine ag ?_)
   exact ⟨rfl,hI⟩
  ·refine er (by omega) ?_
   repeat (first|refine ad ?_|refine af (by decide) ?_|refine ac ?_|refine ah ?_|refine ag ?_)
   exact ⟨rfl,hI⟩
 intro t38 _ _ _ _ _ _ _ _ _ _ _ _ _ _ _ _ _ _ _ _ w'
 rintro ⟨rfl,hI⟩
 refine a8 (fun hb=>by cases hb) (fun _=>?_)
 refine ⟨fun i n w'=>∃ j m:Nat,j<=d.length/\i=.int .i64 j/\n=.int .i64 m/\m<10 ^ j/\Cj (d.drop j) m=Cj d 0/\Inv w [] [] S w',fun i _ _=>d.length - (intOf i).toNat,
  ⟨0,0,Nat.zero_le _,rfl,rfl,by simp,rfl,hI⟩,?_⟩
 intro t6 _ _ t5 _ _ _ _ _ _ _ _ _ _ _ _ _ _ _ _ _ _ _ _ _ _ _ _ w'
 rintro ⟨j,m,hj,rfl,rfl,hm,hval,hI⟩
 have hp:10 ^ j<=10 ^ 4:=Nat.pow_le_pow_right (by omega) (by omega)
 refine fA bg ?_
 refine bR ?_
 refine bk (fun hji=>?_) (fun hji=>?_)
 ·have hj':j<d.length:=by omega
  have hdj:=(JF hj').1 (hd j hj')
  refine ⟨fun t w'=>t=.bool false/\Inv w [] [] S w',?_,?_⟩
  ·refine ec bg hj' ?_
   refine eD (by omega) ?_
   repeat (first|refine ad ?_|refine af (by decide) ?_|refine ac ?_|refine ah ?_|refine ag ?_)
   refine ec bg hj' ?_
   refine ki (by omega) ?_
   repeat (first|refine ad ?_|refine af (by decide) ?_|refine ac ?_|refine ah ?_|refine ag ?_)
   exact ⟨rfl,hI⟩
  intro t54 _ _ _ _ _ _ _ _ _ w'
  rintro ⟨rfl,hI⟩
  refine a8 (fun hb=>by cases hb) (fun _=>?_)
  refine CQ (by omega) ?_
  refine ec bg hj' ?_
  refine HO (c:=((d[j].toNat - 48:Nat):Int)) ?_ ?_
  ·rw [IntWalk.u8_in _ (by omega)]; omega
  refine mx fQ jc (IntWalk.i64_in _ (by omega)) ?_
  refine bL (by omega) ?_
  refine bL (by omega) ?_
  refine ⟨⟨j+1,m * 10+(d[j].toNat - 48),hj',rfl,?_,?_,?_,hI⟩,by simp [intOf]; omega⟩
  ·congr 1
  ·rw [Nat.pow_succ]; omega
  ·rw [<- hval,KO hj']
 ·have:j=d.length:=by omega
  subst this
  rw [List.drop_length,Cj] at hval
  refine ⟨fun t w'=>t=.int .i64 m/\Inv w [] [] S w',a8 (fun hb=>by cases hb) (fun _=>⟨rfl,hI⟩),?_⟩
  intro t5 _ _ _ w'
  rintro ⟨rfl,hI⟩
  exact done hI (by rw [hval])
abbrev CA (k n:Int):Value:=.agg #[.int .i64 k,.int .i64 n,.string ⟨#[]⟩,.slice none 0 0]
theorem vO {w:World} {K:Value->World->Prop} {k n:Int} (hk:K (CA k n) w):Run Tryz.prog (dy ab [(0,.int .i64 k),(1,.int .i64 n)]) w K:=by
 refine Run.of (v:=CA k n) (w':=w) ?_ hk
 unfold dy
 rw [Sem.run_bind,run_build w ab _ #[.int .i64 k,.int .i64 n,.string ⟨#[]⟩,.slice none 0 0] (by kernel_rfl),Result.andThen_ok]
 rfl
theorem lC (n:Int) (S:az):Pure Tryz.prog Kk [.int .i64 n] S (CA 1 n):=by
 intro w hI
 refine BL ?_
 unfold zD
 refine bw hI bG fun b w' hI=>?_
 refine vO ?_
 refine bf hI 0 rfl ai rfl rfl (by simp [Value.oneCell']) fun w' hI=>?_
 refine bZ hI 0 ai rfl rfl ?_
 exact done hI rfl
theorem lA (n:Int) (S:az):Pure Tryz.prog K9 [.int .i64 n] S (CA 2 n):=by
 intro w hI
 refine BN ?_
 unfold y7
 refine bw hI bG fun b w' hI=>?_
 refine vO ?_
 refine bf hI 0 rfl ai rfl rfl (by simp [Value.oneCell']) fun w' hI=>?_
 refine bZ hI 0 ai rfl rfl ?_
 exact done hI rfl
end
theorem Fq (s:Bs) (n e:Nat):pP s (n+1) e=if dig s e=true then pP s n (e+1) else e:=rfl
theorem E4 (s:Bs):∀ (n e:Nat),e<=pP s n e/\pP s n e<=e+n
 | 0,e=>by simp [pP]
 | n+1,e=>by
  rw [pP]
  split
  ·have:=E4 s n (e+1); omega
  ·omega
theorem tO (s:Bs):∀ (n e i:Nat),e<=i->i<pP s n e->dig s i=true
 | 0,e,i,h1,h2=>by simp [pP] at h2; omega
 | n+1,e,i,h1,h2=>by
  rw [pP] at h2
  split at h2
  ·rename_i h
   by_cases he:e=i
   ·subst he; exact h
   ·exact tO s n (e+1) i (by omega) h2
  ·omega
theorem DC {s:Bs} {a b i:Nat} (hi:i<(cut s a b).length):∃ h:a+i<s.length,(cut s a b)[i]=s[a+i]/\a+i<b:=by
 have h1:(cut s a b).length=min b s.length - a:=by simp [cut]
 refine ⟨by omega,?_,by omega⟩
 simp [cut]
theorem ES {s:Bs} {a b:Nat} (hb:b<=s.length):(cut s a b).length=b - a:=by simp [cut]; omega
theorem M1 {s:Bs} {a b i:Nat} (hi:i<(cut s a b).length):dig (cut s a b) i=dig s (a+i):=by
 obtain ⟨h,e,_⟩:=DC hi
 rw [dig,dig,jd hi,jd h,e]
section
attribute [local irreducible] Run CondV aj bd
theorem AY {s:Bs} {i e:Nat} {t:T} (hn:LS s i=some (t,e)) (hi:i<=100000) (S:az) :
  ∃ n:Int,inI n/\t=.mk 2 n emptyB []/\i<=e/\e<=i+5/\Pure Tryz.prog DF [.string (st s),.int .i64 (i:Int)] S (.tuple #[CA 2 n,.int .i64 (e:Int)]):=by
 unfold LS at hn
 obtain ⟨fr,hfr⟩:∃ fr,fr=if sgn s i 45=true then i+1 else i:=⟨_,rfl⟩
 simp only [<- hfr] at hn
 obtain ⟨en,hen⟩:∃ en,en=pP s 4 fr:=⟨_,rfl⟩
 simp only [<- hen] at hn
 have hle:=E4 s 4 fr
 rw [<- hen] at hle
 have hfi:i<=fr/\fr<=i+1:=by rw [hfr]; split <;> omega
 split at hn
 ·cases hn
 rename_i hc
 simp only [not_or] at hc
 obtain ⟨hc1,hc2,hc3,hc4⟩:=hc
 simp only [Option.some.injEq,Prod.mk.injEq] at hn
 obtain ⟨rfl,rfl⟩:=hn
 have hdig:∀ j,j<(cut s fr en).length->dig (cut s fr en) j=true:=fun j hj=>by
  obtain ⟨h1,h2,h3⟩:=DC hj
  rw [M1 hj]
  exact tO s 4 fr _ (by omega) (by rw [<- hen]; exact h3)
 have hlen0:0<(cut s fr en).length:=by
  cases he:cut s fr en with
  | nil=>exact absurd he hc1
  | cons a l=>simp
 have hen2:fr<en:=by
  obtain ⟨_,_,h3⟩:=DC hlen0
  omega
 have hens:en<=s.length:=by
  have:=tO s 4 fr (en - 1) (by omega) (by rw [<- hen]; omega)
  have:=AR this
  omega
 refine ⟨_,?_,rfl,by omega,by omega,?_⟩
 ·unfold inI; split <;> omega
 intro w hI
 refine uv ?_
 unfold qt;dsimp only
 refine bw hI bG fun b4 w' hI=>?_
 refine ⟨fun t w'=>t=.int .i64 (fr:Int)/\Inv w [] [.blk b4 (.cells #[.int .i64 0,.int .i64 0,.string ⟨#[]⟩,.slice none 0 0] ab)] S w',?_,?_⟩
 ·refine Run.callPure cU cT hI (cB s i 45 S) fun w' hI=>?_
  refine a8 (fun hb=>?_) (fun hb=>?_)
  ·refine bL (by omega) ?_
   rw [if_pos hb] at hfr
   exact ⟨by rw [hfr]; congr 1,hI⟩
  ·rw [if_neg (by rw [hb]; decide)] at hfr
   exact ⟨by rw [hfr],hI⟩
 intro t6 _ _ _ _ _ w'
 rintro ⟨rfl,hI⟩
 refine ⟨fun t w'=>∃ j:Nat,t=.int .i64 (j:Int)/\fr<=j/\j<=fr+4/\pP s (fr+4 - j) j=en/\Inv w [] [.blk b4 (.cells #[.int .i64 0,.int .i64 0,.string ⟨#[]⟩,.slice none 0 0] ab)] S w',fun t _=>fr+4 - (intOf t).toNat,
  ⟨fr,rfl,Nat.le_refl _,by omega,by rw [Nat.add_sub_cancel_left]; exact hen.symm,hI⟩,?_⟩
 intro t6 _ _ _ _ _ _ _ _ _ _ _ w'
 rintro ⟨j,rfl,hj1,hj2,hj3,hI⟩
 refine ⟨fun t w'=>t=.bool (dig s j && decide (j<fr+4))/\Inv w [] [.blk b4 (.cells #[.int .i64 0,.int .i64 0,.string ⟨#[]⟩,.slice none 0 0] ab)] S w',?_,?_⟩
 ·refine Run.callPure gw gv hI (eY s j S) fun w' hI=>?_
  cases hdj:dig s j
  ·repeat (first|refine ad ?_|refine af (by decide) ?_|refine ac ?_|refine ah ?_|refine ag ?_)
   exact ⟨rfl,hI⟩
  ·repeat (first|refine ad ?_|refine af (by decide) ?_|refine ac ?_|refine ah ?_|refine ag ?_)
   refine bL (by omega) ?_
   refine bR ?_
   repeat (first|refine ad ?_|refine af (by decide) ?_|refine ac ?_|refine ah ?_|refine ag ?_)
   refine ⟨?_,hI⟩
   rw [Bool.true_and]
   congr 1
   rw [decide_eq_decide]
   omega
 intro t25 _ _ _ _ _ _ _ _ w'
 rintro ⟨rfl,hI⟩
 refine a8 (fun hb=>?_) (fun hb=>?_)
 ·rw [Bool.and_eq_true,decide_eq_true_eq] at hb
  refine bL (by omega) ?_
  refine ⟨⟨j+1,rfl,by omega,by omega,?_,hI⟩,by simp [intOf]; omega⟩
  rw [<- hj3,show fr+4 - j=(fr+4 - (j+1))+1 by omega,Fq,if_pos hb.1]
 ·have hje:j=en:=by
   rw [<- hj3]
   by_cases h4:j=fr+4
   ·rw [h4,Nat.sub_self]; rfl
   ·rw [show fr+4 - j=(fr+4 - (j+1))+1 by omega,Fq,if_neg]
    intro hd
    rw [hd,Bool.true_and,decide_eq_false_iff_not] at hb
    omega
  subst hje
  refine za bg (by omega) hens ?_
  refine Run.callPure Gg Hs hI (Ee _ hdig hlen0 (by rw [ES hens]; omega) hc2 S) fun w' hI=>?_
  obtain ⟨n,hn⟩:∃ n,n=Cj (cut s fr j) 0:=⟨_,rfl⟩
  rw [<- hn]
  refine bb (v:=.int .i64 (n:Int)) rfl ?_
  refine bb (v:=.bool true) rfl ?_
  simp only [<- hn] at hc3 hc4 ⊢
  refine ⟨fun t w'=>t=.bool false/\Inv w [] [.blk b4 (.cells #[.int .i64 0,.int .i64 0,.string ⟨#[]⟩,.slice none 0 0] ab)] S w',?_,?_⟩
  ·refine cF ?_
   repeat (first|refine ad ?_|refine af (by decide) ?_|refine ac ?_|refine ah ?_|refine ag ?_)
   by_cases hfi':i<fr
   ·refine Ih (by omega) ?_
    repeat (first|refine ad ?_|refine af (by decide) ?_|refine ac ?_|refine ah ?_|refine ag ?_)
    refine bO ?_
    have:¬ n=0:=fun h=>hc3 ⟨hfi',h⟩
    rw [decide_eq_false (by omega)]
    repeat (first|refine ad ?_|refine af (by decide) ?_|refine ac ?_|refine ah ?_|refine ag ?_)
    refine ki (by omega) ?_
    repeat (first|refine ad ?_|refine af (by decide) ?_|refine ac ?_|refine ah ?_|refine ag ?_)
    exact ⟨rfl,hI⟩
   ·refine ki (by omega) ?_
    repeat (first|refine ad ?_|refine af (by decide) ?_|refine ac ?_|refine ah ?_|refine ag ?_)
    refine ki (by omega) ?_
    repeat (first|refine ad ?_|refine af (by decide) ?_|refine ac ?_|refine ah ?_|refine ag ?_)
    exact ⟨rfl,hI⟩
  intro t50 _ _ _ _ _ _ _ _ _ _ _ _ _ _ w'
  rintro ⟨rfl,hI⟩
  refine a8 (fun hb=>by cases hb) (fun _=>?_)
  refine ⟨fun t w'=>t=.int .i64 (if i<fr then -(n:Int) else n)/\Inv w [] [.blk b4 (.cells #[.int .i64 0,.int .i64 0,.string ⟨#[]⟩,.slice none 0 0] ab)] S w',?_,?_⟩
  ·refine d6 ?_
   refine bk (fun hb=>?_) (fun hb=>?_)
   ·refine Nf (by omega) ?_
    exact ⟨by rw [if_pos (by omega)],hI⟩
   ·exact ⟨by rw [if_neg (by omega)],hI⟩
  intro t8 _ _ _ _ _ w'
  rintro ⟨rfl,hI⟩
  refine Run.callPure qN rJ hI (lA _ S) fun w' hI=>?_
  refine bf hI 0 rfl ai rfl rfl (by simp [Value.oneCell']) fun w' hI=>?_
  refine bZ hI 0 ai rfl rfl ?_
  exact done hI rfl
end
theorem RdSl.some1 {α:Type} {S:az} {k:Nat} {R:List Value->α->Prop} {v:Value} {xs:List α} (h:RdSl S k R v xs) (h0:0<xs.length):∃ b o cap,v=.slice (some ⟨b,o,none⟩) xs.length cap:=by
 obtain ⟨b,o,cap,c,E,fz,e,_,_⟩:=h.at_ h0
 exact ⟨b,o,cap,e⟩
theorem Ge (s:Bs) (n e:Nat):xT s (n+1) e=if sml s e=true then xT s n (e+1) else e:=rfl
def GK (o:Option (Bs × Nat)):Value:=match o with
 | none=>.tuple #[.string ⟨#[]⟩,.int .i64 (-1)]
 | some (n,e)=>.tuple #[.string (st n),.int .i64 (e:Int)]
theorem II (s:Bs) (i:Nat) {j:Nat} (h:j<signs.length) (b:Bs):h8 s i (signs.drop j) b=h8 s i (signs.drop (j+1)) (if decide (i+signs[j].size<=s.length)=true/\cut s i (i+signs[j].size)=bs signs[j]/\b.length<signs[j].size then bs signs[j] else b):=by
 rw [List.drop_eq_getElem_cons h,h8]
theorem FH:∀ x∈signs,x.size<=3:=by decide
section
attribute [local irreducible] Run CondV aj bd
theorem mz {s:Bs} {i:Nat} (hi:i<s.length) (hs:s.length<=100000) (S:az):Pure Tryz.prog HY [.string (st s),.int .i64 (i:Int)] S (GK (nj s i)):=by
 intro w hI
 refine Ab ?_
 unfold wq
 obtain ⟨E,hE⟩:∃ E,E=xT s (s.length - i) i:=⟨_,rfl⟩
 have hnm:nj s i=if i+6<E then none else if i<E then some (cut s i E,E) else if h8 s i signs []=[] then none else some (h8 s i signs [],i+(h8 s i signs []).length):=by
  rw [nj,<- hE]
 refine ⟨fun t w'=>∃ e:Nat,t=.int .i64 (e:Int)/\i<=e/\e<=s.length/\xT s (s.length - e) e=E/\Inv w [] [] S w',fun t _=>s.length - (intOf t).toNat,⟨i,rfl,Nat.le_refl _,by omega,hE.symm,hI⟩,?_⟩
 intro t6 _ _ _ _ _ w'
 rintro ⟨e,rfl,he1,he2,he3,hI⟩
 refine Run.callPure r2 tn hI (np s e S) fun w' hI=>?_
 refine a8 (fun hb=>?_) (fun hb=>?_)
 ·have hlt:=AR hb
  refine bL (by omega) ?_
  refine ⟨⟨e+1,rfl,by omega,by omega,?_,hI⟩,by simp [intOf]; omega⟩
  rw [<- he3,show s.length - e=(s.length - (e+1))+1 by omega,Ge,if_pos hb]
 have heE:e=E:=by
  rw [<- he3]
  by_cases h:e=s.length
  ·rw [h,Nat.sub_self,xT]
  ·rw [show s.length - e=(s.length - (e+1))+1 by omega,Ge,if_neg (by rw [hb]; decide)]
 subst heE
 refine bL (by omega) ?_
 refine d6 ?_
 refine bk (fun hb=>done hI (by rw [hnm,if_pos (by omega)]; rfl)) (fun hb=>?_)
 rw [if_neg (by omega)] at hnm
 refine d6 ?_
 refine bk (fun hb=>?_) (fun hb=>?_)
 ·refine za bg (by omega) (by omega) ?_
  exact done hI (by rw [hnm,if_pos (by omega)]; rfl)
 rw [if_neg (by omega)] at hnm
 refine Run.call0 th rU hI (qj S) fun v I' S1 w'=>?_
 rintro ⟨rfl,hle,hr⟩ _ hI
 obtain ⟨b,o,cap,rfl⟩:=RdSl.some1 hr (by decide)
 refine ⟨fun t u w'=>∃ (j:Nat) (best:Bs),j<=signs.length/\t=.int .i64 (j:Int)/\u=.string (st best)/\best.length<=3/\h8 s i (signs.drop j) best=h8 s i signs []/\Inv w [] [] S1 w',fun t _ _=>signs.length - (intOf t).toNat,
  ⟨0,[],Nat.zero_le _,rfl,rfl,by simp,rfl,hI.nil⟩,?_⟩
 intro t9 _ _ t7 _ _ _ _ t65 t64 t63 t62 t61 t60 t59 t58 t57 t56 t55 t54 t53 t52 t51 t50 t49 t48 t47 t46 t45 t44 t43 t42 t41 _ _ _ _ _ _ _ _ _ _ w'
 rintro ⟨j,best,hj0,rfl,rfl,hbl,hbest,hI⟩
 have h15:signs.length=15:=rfl
 refine a9 hr cG ?_
 refine bR ?_
 refine bk (fun hji=>?_) (fun hji=>?_)
 ·have hj:j<signs.length:=by omega
  obtain ⟨x,hx⟩:∃ x,x=signs[j]:=⟨_,rfl⟩
  have hx3:x.size<=3:=by rw [hx]; exact FH _ (List.getElem_mem hj)
  obtain ⟨b',o',cap',c,E',fz,hsl,hS,hR⟩:=hr.at_ hj
  cases hsl
  have hcx:c[o+j * 1]?=some (.string x):=by rw [hx]; exact bm hR 0 _ rfl
  rw [II s i hj,<- hx] at hbest
  refine ⟨fun u w'=>∃ best',u=.string (st best')/\best'.length<=3/\h8 s i (signs.drop (j+1)) best'=h8 s i signs []/\Inv w [] [] S1 w',?_,?_⟩
  ·refine bi cG hj ?_
   refine dM bl ((hI.cellS hS).trans hcx) ?_
   refine iQ bg ?_
   by_cases hlen:i+x.size<=s.length
   ·cases hq:decide (st (cut s i (i+x.size))=x)
    ·skip
     refine ⟨fun D cI cZ cK df de c9 c8 dg db dd dz dk dn cP cO cQ cS bT bS cW dr du dq dt dp w_=>(D 0=true->dp=.int .i64 (i:Int))/\(D 1=true->dt=.int .i64 (x.size:Int))/\(D 2=true->dq=.int .i64 ((i+x.size:Nat):Int))/\(D 3=true->du=.string (st s))/\(D 4=true->dr=.int .i64 (s.length:Int))/\(D 5=true->cW=.bool true)/\(D 6=true->bS=.bool true)/\(D 7=true->bT=.string (st s))/\(D 8=true->cS=.int .i64 (i:Int))/\(D 9=true->cQ=.int .i64 (i:Int))/\(D 10=true->cO=.int .i64 (x.size:Int))/\(D 11=true->cP=.int .i64 ((i+x.size:Nat):Int))/\(D 12=true->dn=.string (st (cut s i (i+x.size))))/\(D 13=true->dk=.slice (some ⟨b,o,none⟩) signs.length cap)/\(D 14=true->dz=.int .i64 (j:Int))/\(D 15=true->dd=.pointer (some ⟨b,o+j * 1,none⟩))/\(D 16=true->db=.string x)/\(D 17=true->dg=.bool false)/\(D 18=true->c8=.bool false)/\(D 19=true->c9=.bool false)/\(D 20=true->de=undef)/\(D 21=true->df=undef)/\(D 22=true->cK=undef)/\(D 23=true->cZ=undef)/\(D 24=true->cI=.bool false)/\Inv w [] [] S1 w_,⟨ae,ae,ae,ae,ae,ae,ae,ae,ae,ae,ae,ae,ae,ae,ae,ae,ae,ae,ae,ae,ae,ae,ae,ae,ae,hI.draw⟩,⟨?_,?_,?_,?_,?_,?_,?_,?_,?_,?_,?_,?_,?_,?_,?_,?_,?_,?_,?_,?_,?_,?_,?_,?_,?_,trivial⟩,?_⟩
     ·intro D aY  cI cZ cK df de c9 c8 dg db dd dz dk dn cP cO cQ cS bT bS cW dr du dq dt dp w_
      rintro ⟨aA,aB,aC,aD,aw,aE,aF,aJ,aL,aQ,al,ao,aG,aM,aO,aN,aU,aV,aW,aX,a6,a5,a4,aZ,a7,hI⟩
      exact ⟨fun _=>rfl,aB,aC,aD,aw,aE,aF,aJ,aL,aQ,al,ao,aG,aM,aO,aN,aU,aV,aW,aX,a6,a5,a4,aZ,a7,hI⟩
     ·intro D aY  cI cZ cK df de c9 c8 dg db dd dz dk dn cP cO cQ cS bT bS cW dr du dq dt dp w_
      rintro ⟨aA,aB,aC,aD,aw,aE,aF,aJ,aL,aQ,al,ao,aG,aM,aO,aN,aU,aV,aW,aX,a6,a5,a4,aZ,a7,hI⟩
      exact ⟨aA,fun _=>rfl,aC,aD,aw,aE,aF,aJ,aL,aQ,al,ao,aG,aM,aO,aN,aU,aV,aW,aX,a6,a5,a4,aZ,a7,hI⟩
     ·intro D aY cc ij cI cZ cK df de c9 c8 dg db dd dz dk dn cP cO cQ cS bT bS cW dr du dq dt dp w_
      rintro ⟨aA,aB,aC,aD,aw,aE,aF,aJ,aL,aQ,al,ao,aG,aM,aO,aN,aU,aV,aW,aX,a6,a5,a4,aZ,a7,hI⟩
      obtain rfl:=aA cc
      obtain rfl:=aB ij
      refine bL (by omega) ?_
      exact ⟨aA,aB,fun _=>rfl,aD,aw,aE,aF,aJ,aL,aQ,al,ao,aG,aM,aO,aN,aU,aV,aW,aX,a6,a5,a4,aZ,a7,hI⟩
     ·intro D aY  cI cZ cK df de c9 c8 dg db dd dz dk dn cP cO cQ cS bT bS cW dr du dq dt dp w_
      rintro ⟨aA,aB,aC,aD,aw,aE,aF,aJ,aL,aQ,al,ao,aG,aM,aO,aN,aU,aV,aW,aX,a6,a5,a4,aZ,a7,hI⟩
      exact ⟨aA,aB,aC,fun _=>rfl,aw,aE,aF,aJ,aL,aQ,al,ao,aG,aM,aO,aN,aU,aV,aW,aX,a6,a5,a4,aZ,a7,hI⟩
     ·intro D aY dB cI cZ cK df de c9 c8 dg db dd dz dk dn cP cO cQ cS bT bS cW dr du dq dt dp w_
      rintro ⟨aA,aB,aC,aD,aw,aE,aF,aJ,aL,aQ,al,ao,aG,aM,aO,aN,aU,aV,aW,aX,a6,a5,a4,aZ,a7,hI⟩
      obtain rfl:=aD dB
      refine fA bg ?_
      exact ⟨aA,aB,aC,aD,fun _=>rfl,aE,aF,aJ,aL,aQ,al,ao,aG,aM,aO,aN,aU,aV,aW,aX,a6,a5,a4,aZ,a7,hI⟩
     ·intro D aY eq dJ cI cZ cK df de c9 c8 dg db dd dz dk dn cP cO cQ cS bT bS cW dr du dq dt dp w_
      rintro ⟨aA,aB,aC,aD,aw,aE,aF,aJ,aL,aQ,al,ao,aG,aM,aO,aN,aU,aV,aW,aX,a6,a5,a4,aZ,a7,hI⟩
      obtain rfl:=aC eq
      obtain rfl:=aw dJ
      refine zS (by omega) ?_
      exact ⟨aA,aB,aC,aD,aw,fun _=>rfl,aF,aJ,aL,aQ,al,ao,aG,aM,aO,aN,aU,aV,aW,aX,a6,a5,a4,aZ,a7,hI⟩
     ·intro D aY d3 cI cZ cK df de c9 c8 dg db dd dz dk dn cP cO cQ cS bT bS cW dr du dq dt dp w_
      rintro ⟨aA,aB,aC,aD,aw,aE,aF,aJ,aL,aQ,al,ao,aG,aM,aO,aN,aU,aV,aW,aX,a6,a5,a4,aZ,a7,hI⟩
      obtain rfl:=aE d3
      exact ⟨aA,aB,aC,aD,aw,aE,fun _=>rfl,aJ,aL,aQ,al,ao,aG,aM,aO,aN,aU,aV,aW,aX,a6,a5,a4,aZ,a7,hI⟩
     ·intro D aY c4 cI cZ cK df de c9 c8 dg db dd dz dk dn cP cO cQ cS bT bS cW dr du dq dt dp w_
      rintro ⟨aA,aB,aC,aD,aw,aE,aF,aJ,aL,aQ,al,ao,aG,aM,aO,aN,aU,aV,aW,aX,a6,a5,a4,aZ,a7,hI⟩
      obtain rfl:=aF c4
      refine ad ?_
      exact ⟨aA,aB,aC,aD,aw,aE,aF,fun _=>rfl,aL,aQ,al,ao,aG,aM,aO,aN,aU,aV,aW,aX,a6,a5,a4,aZ,a7,hI⟩
     ·intro D aY c4 cI cZ cK df de c9 c8 dg db dd dz dk dn cP cO cQ cS bT bS cW dr du dq dt dp w_
      rintro ⟨aA,aB,aC,aD,aw,aE,aF,aJ,aL,aQ,al,ao,aG,aM,aO,aN,aU,aV,aW,aX,a6,a5,a4,aZ,a7,hI⟩
      obtain rfl:=aF c4
      refine ad ?_
      exact ⟨aA,aB,aC,aD,aw,aE,aF,aJ,fun _=>rfl,aQ,al,ao,aG,aM,aO,aN,aU,aV,aW,aX,a6,a5,a4,aZ,a7,hI⟩
     ·intro D aY c4 cI cZ cK df de c9 c8 dg db dd dz dk dn cP cO cQ cS bT bS cW dr du dq dt dp w_
      rintro ⟨aA,aB,aC,aD,aw,aE,aF,aJ,aL,aQ,al,ao,aG,aM,aO,aN,aU,aV,aW,aX,a6,a5,a4,aZ,a7,hI⟩
      obtain rfl:=aF c4
      refine ad ?_
      exact ⟨aA,aB,aC,aD,aw,aE,aF,aJ,aL,fun _=>rfl,al,ao,aG,aM,aO,aN,aU,aV,aW,aX,a6,a5,a4,aZ,a7,hI⟩
     ·intro D aY c4 cI cZ cK df de c9 c8 dg db dd dz dk dn cP cO cQ cS bT bS cW dr du dq dt dp w_
      rintro ⟨aA,aB,aC,aD,aw,aE,aF,aJ,aL,aQ,al,ao,aG,aM,aO,aN,aU,aV,aW,aX,a6,a5,a4,aZ,a7,hI⟩
      obtain rfl:=aF c4
      refine ad ?_
      exact ⟨aA,aB,aC,aD,aw,aE,aF,aJ,aL,aQ,fun _=>rfl,ao,aG,aM,aO,aN,aU,aV,aW,aX,a6,a5,a4,aZ,a7,hI⟩
     ·intro D aY Ik lJ mo cI cZ cK df de c9 c8 dg db dd dz dk dn cP cO cQ cS bT bS cW dr du dq dt dp w_
      rintro ⟨aA,aB,aC,aD,aw,aE,aF,aJ,aL,aQ,al,ao,aG,aM,aO,aN,aU,aV,aW,aX,a6,a5,a4,aZ,a7,hI⟩
      obtain rfl:=aQ Ik
      obtain rfl:=al lJ
      obtain rfl:=aF mo
      refine ad ?_; refine bL (by omega) ?_
      exact ⟨aA,aB,aC,aD,aw,aE,aF,aJ,aL,aQ,al,fun _=>rfl,aG,aM,aO,aN,aU,aV,aW,aX,a6,a5,a4,aZ,a7,hI⟩
     ·intro D aY ed gp FK AV cI cZ cK df de c9 c8 dg db dd dz dk dn cP cO cQ cS bT bS cW dr du dq dt dp w_
      rintro ⟨aA,aB,aC,aD,aw,aE,aF,aJ,aL,aQ,al,ao,aG,aM,aO,aN,aU,aV,aW,aX,a6,a5,a4,aZ,a7,hI⟩
      obtain rfl:=aJ ed
      obtain rfl:=aL gp
      obtain rfl:=ao FK
      obtain rfl:=aF AV
      refine ad ?_; refine za bg (by omega) (by omega) ?_
      exact ⟨aA,aB,aC,aD,aw,aE,aF,aJ,aL,aQ,al,ao,fun _=>rfl,aM,aO,aN,aU,aV,aW,aX,a6,a5,a4,aZ,a7,hI⟩
     ·intro D aY c4 cI cZ cK df de c9 c8 dg db dd dz dk dn cP cO cQ cS bT bS cW dr du dq dt dp w_
      rintro ⟨aA,aB,aC,aD,aw,aE,aF,aJ,aL,aQ,al,ao,aG,aM,aO,aN,aU,aV,aW,aX,a6,a5,a4,aZ,a7,hI⟩
      obtain rfl:=aF c4
      refine ad ?_
      exact ⟨aA,aB,aC,aD,aw,aE,aF,aJ,aL,aQ,al,ao,aG,fun _=>rfl,aO,aN,aU,aV,aW,aX,a6,a5,a4,aZ,a7,hI⟩
     ·intro D aY c4 cI cZ cK df de c9 c8 dg db dd dz dk dn cP cO cQ cS bT bS cW dr du dq dt dp w_
      rintro ⟨aA,aB,aC,aD,aw,aE,aF,aJ,aL,aQ,al,ao,aG,aM,aO,aN,aU,aV,aW,aX,a6,a5,a4,aZ,a7,hI⟩
      obtain rfl:=aF c4
      refine ad ?_
      exact ⟨aA,aB,aC,aD,aw,aE,aF,aJ,aL,aQ,al,ao,aG,aM,fun _=>rfl,aN,aU,aV,aW,aX,a6,a5,a4,aZ,a7,hI⟩
     ·intro D aY ib wb mo cI cZ cK df de c9 c8 dg db dd dz dk dn cP cO cQ cS bT bS cW dr du dq dt dp w_
      rintro ⟨aA,aB,aC,aD,aw,aE,aF,aJ,aL,aQ,al,ao,aG,aM,aO,aN,aU,aV,aW,aX,a6,a5,a4,aZ,a7,hI⟩
      obtain rfl:=aM ib
      obtain rfl:=aO wb
      obtain rfl:=aF mo
      refine ad ?_; refine bi cG hj ?_
      exact ⟨aA,aB,aC,aD,aw,aE,aF,aJ,aL,aQ,al,ao,aG,aM,aO,fun _=>rfl,aU,aV,aW,aX,a6,a5,a4,aZ,a7,hI⟩
     ·intro D aY AU ge cI cZ cK df de c9 c8 dg db dd dz dk dn cP cO cQ cS bT bS cW dr du dq dt dp w_
      rintro ⟨aA,aB,aC,aD,aw,aE,aF,aJ,aL,aQ,al,ao,aG,aM,aO,aN,aU,aV,aW,aX,a6,a5,a4,aZ,a7,hI⟩
      obtain rfl:=aN AU
      obtain rfl:=aF ge
      refine ad ?_; refine dM bl ((hI.cellS hS).trans hcx) ?_
      exact ⟨aA,aB,aC,aD,aw,aE,aF,aJ,aL,aQ,al,ao,aG,aM,aO,aN,fun _=>rfl,aV,aW,aX,a6,a5,a4,aZ,a7,hI⟩
     ·intro D aY kK xi mo cI cZ cK df de c9 c8 dg db dd dz dk dn cP cO cQ cS bT bS cW dr du dq dt dp w_
      rintro ⟨aA,aB,aC,aD,aw,aE,aF,aJ,aL,aQ,al,ao,aG,aM,aO,aN,aU,aV,aW,aX,a6,a5,a4,aZ,a7,hI⟩
      obtain rfl:=aG kK
      obtain rfl:=aU xi
      obtain rfl:=aF mo
      refine ad ?_; refine cL ?_; rw [hq]
      exact ⟨aA,aB,aC,aD,aw,aE,aF,aJ,aL,aQ,al,ao,aG,aM,aO,aN,aU,fun _=>rfl,aW,aX,a6,a5,a4,aZ,a7,hI⟩
     ·intro D aY c4 Gz cI cZ cK df de c9 c8 dg db dd dz dk dn cP cO cQ cS bT bS cW dr du dq dt dp w_
      rintro ⟨aA,aB,aC,aD,aw,aE,aF,aJ,aL,aQ,al,ao,aG,aM,aO,aN,aU,aV,aW,aX,a6,a5,a4,aZ,a7,hI⟩
      obtain rfl:=aF c4
      obtain rfl:=aV Gz
      refine ah ?_
      exact ⟨aA,aB,aC,aD,aw,aE,aF,aJ,aL,aQ,al,ao,aG,aM,aO,aN,aU,aV,fun _=>rfl,aX,a6,a5,a4,aZ,a7,hI⟩
     ·intro D aY s3 ge cI cZ cK df de c9 c8 dg db dd dz dk dn cP cO cQ cS bT bS cW dr du dq dt dp w_
      rintro ⟨aA,aB,aC,aD,aw,aE,aF,aJ,aL,aQ,al,ao,aG,aM,aO,aN,aU,aV,aW,aX,a6,a5,a4,aZ,a7,hI⟩
      obtain rfl:=aW s3
      exact ⟨aA,aB,aC,aD,aw,aE,aF,aJ,aL,aQ,al,ao,aG,aM,aO,aN,aU,aV,aW,fun _=>rfl,a6,a5,a4,aZ,a7,hI⟩
     ·intro D aY gH cI cZ cK df de c9 c8 dg db dd dz dk dn cP cO cQ cS bT bS cW dr du dq dt dp w_
      rintro ⟨aA,aB,aC,aD,aw,aE,aF,aJ,aL,aQ,al,ao,aG,aM,aO,aN,aU,aV,aW,aX,a6,a5,a4,aZ,a7,hI⟩
      obtain rfl:=aX gH
      refine af (c:=false) (b:=true) (by decide) ?_
      exact ⟨aA,aB,aC,aD,aw,aE,aF,aJ,aL,aQ,al,ao,aG,aM,aO,aN,aU,aV,aW,aX,fun _=>rfl,a5,a4,aZ,a7,hI⟩
     ·intro D aY gH cI cZ cK df de c9 c8 dg db dd dz dk dn cP cO cQ cS bT bS cW dr du dq dt dp w_
      rintro ⟨aA,aB,aC,aD,aw,aE,aF,aJ,aL,aQ,al,ao,aG,aM,aO,aN,aU,aV,aW,aX,a6,a5,a4,aZ,a7,hI⟩
      obtain rfl:=aX gH
      refine af (c:=false) (b:=true) (by decide) ?_
      exact ⟨aA,aB,aC,aD,aw,aE,aF,aJ,aL,aQ,al,ao,aG,aM,aO,aN,aU,aV,aW,aX,a6,fun _=>rfl,a4,aZ,a7,hI⟩
     ·intro D aY yM Fl cI cZ cK df de c9 c8 dg db dd dz dk dn cP cO cQ cS bT bS cW dr du dq dt dp w_
      rintro ⟨aA,aB,aC,aD,aw,aE,aF,aJ,aL,aQ,al,ao,aG,aM,aO,aN,aU,aV,aW,aX,a6,a5,a4,aZ,a7,hI⟩
      obtain rfl:=a5 yM
      obtain rfl:=aX Fl
      refine af (c:=false) (b:=true) (by decide) ?_
      exact ⟨aA,aB,aC,aD,aw,aE,aF,aJ,aL,aQ,al,ao,aG,aM,aO,aN,aU,aV,aW,aX,a6,a5,fun _=>rfl,aZ,a7,hI⟩
     ·intro D aY yI GQ GH cI cZ cK df de c9 c8 dg db dd dz dk dn cP cO cQ cS bT bS cW dr du dq dt dp w_
      rintro ⟨aA,aB,aC,aD,aw,aE,aF,aJ,aL,aQ,al,ao,aG,aM,aO,aN,aU,aV,aW,aX,a6,a5,a4,aZ,a7,hI⟩
      obtain rfl:=a6 yI
      obtain rfl:=a4 GQ
      obtain rfl:=aX GH
      refine af (c:=false) (b:=true) (by decide) ?_
      exact ⟨aA,aB,aC,aD,aw,aE,aF,aJ,aL,aQ,al,ao,aG,aM,aO,aN,aU,aV,aW,aX,a6,a5,a4,fun _=>rfl,a7,hI⟩
     ·intro D aY gH Gc cI cZ cK df de c9 c8 dg db dd dz dk dn cP cO cQ cS bT bS cW dr du dq dt dp w_
      rintro ⟨aA,aB,aC,aD,aw,aE,aF,aJ,aL,aQ,al,ao,aG,aM,aO,aN,aU,aV,aW,aX,a6,a5,a4,aZ,a7,hI⟩
      obtain rfl:=aX gH
      obtain rfl:=aZ Gc
      refine ag ?_
      exact ⟨aA,aB,aC,aD,aw,aE,aF,aJ,aL,aQ,al,ao,aG,aM,aO,aN,aU,aV,aW,aX,a6,a5,a4,aZ,fun _=>rfl,hI⟩
     intro D DU ER E0 DM DV Eo y6 z0 AF nu nF ov je fi fp jt gK fT fY fE fm fw fF fC fD cI cZ cK df de c9 c8 dg db dd dz dk dn cP cO cQ cS bT bS cW dr du dq dt dp w_
     rintro ⟨aA,aB,aC,aD,aw,aE,aF,aJ,aL,aQ,al,ao,aG,aM,aO,aN,aU,aV,aW,aX,a6,a5,a4,aZ,a7,hI⟩
     obtain rfl:=a7 DU
     obtain rfl:=aZ ER
     obtain rfl:=a4 E0
     obtain rfl:=a5 DM
     obtain rfl:=a6 DV
     obtain rfl:=aX Eo
     obtain rfl:=aW y6
     obtain rfl:=aV z0
     obtain rfl:=aU AF
     obtain rfl:=aN nu
     obtain rfl:=aO nF
     obtain rfl:=aM ov
     obtain rfl:=aG je
     obtain rfl:=ao fi
     obtain rfl:=al fp
     obtain rfl:=aQ jt
     obtain rfl:=aL gK
     obtain rfl:=aJ fT
     obtain rfl:=aF fY
     obtain rfl:=aE fE
     obtain rfl:=aw fm
     obtain rfl:=aD fw
     obtain rfl:=aC fF
     obtain rfl:=aB fC
     obtain rfl:=aA fD
     clear aA aB aC aD aw aE aF aJ aL aQ al ao aG aM aO aN aU aV aW aX a6 a5 a4 aZ a7
     refine a8 (fun hb=>by cases hb) (fun _=>?_)
     refine ⟨best,rfl,hbl,?_,hI⟩
     rw [if_neg] at hbest
     ·exact hbest
     ·rintro ⟨_,h2,_⟩
      rw [decide_eq_false_iff_not] at hq
      exact hq (by rw [h2])
    ·rw [decide_eq_true_eq] at hq
     have hq':=hq
     have hq:decide (st (cut s i (i+x.size))=x)=true:=decide_eq_true hq'
     skip
     refine ⟨fun D cI cZ cK df de c9 c8 dg db dd dz dk dn cP cO cQ cS bT bS cW dr du dq dt dp w_=>(D 0=true->dp=.int .i64 (i:Int))/\(D 1=true->dt=.int .i64 (x.size:Int))/\(D 2=true->dq=.int .i64 ((i+x.size:Nat):Int))/\(D 3=true->du=.string (st s))/\(D 4=true->dr=.int .i64 (s.length:Int))/\(D 5=true->cW=.bool true)/\(D 6=true->bS=.bool true)/\(D 7=true->bT=.string (st s))/\(D 8=true->cS=.int .i64 (i:Int))/\(D 9=true->cQ=.int .i64 (i:Int))/\(D 10=true->cO=.int .i64 (x.size:Int))/\(D 11=true->cP=.int .i64 ((i+x.size:Nat):Int))/\(D 12=true->dn=.string (st (cut s i (i+x.size))))/\(D 13=true->dk=.slice (some ⟨b,o,none⟩) signs.length cap)/\(D 14=true->dz=.int .i64 (j:Int))/\(D 15=true->dd=.pointer (some ⟨b,o+j * 1,none⟩))/\(D 16=true->db=.string x)/\(D 17=true->dg=.bool true)/\(D 18=true->c8=.bool true)/\(D 19=true->c9=.bool true)/\(D 20=true->de=.int .i64 (x.size:Int))/\(D 21=true->df=.string (st best))/\(D 22=true->cK=.int .i64 (best.length:Int))/\(D 23=true->cZ=.bool (decide ((best.length:Int)<(x.size:Int))))/\(D 24=true->cI=.bool (decide ((best.length:Int)<(x.size:Int))))/\Inv w [] [] S1 w_,⟨ae,ae,ae,ae,ae,ae,ae,ae,ae,ae,ae,ae,ae,ae,ae,ae,ae,ae,ae,ae,ae,ae,ae,ae,ae,hI.draw⟩,⟨?_,?_,?_,?_,?_,?_,?_,?_,?_,?_,?_,?_,?_,?_,?_,?_,?_,?_,?_,?_,?_,?_,?_,?_,?_,trivial⟩,?_⟩
     ·intro D aY  cI cZ cK df de c9 c8 dg db dd dz dk dn cP cO cQ cS bT bS cW dr du dq dt dp w_
      rintro ⟨aA,aB,aC,aD,aw,aE,aF,aJ,aL,aQ,al,ao,aG,aM,aO,aN,aU,aV,aW,aX,a6,a5,a4,aZ,a7,hI⟩
      exact ⟨fun _=>rfl,aB,aC,aD,aw,aE,aF,aJ,aL,aQ,al,ao,aG,aM,aO,aN,aU,aV,aW,aX,a6,a5,a4,aZ,a7,hI⟩
     ·intro D aY  cI cZ cK df de c9 c8 dg db dd dz dk dn cP cO cQ cS bT bS cW dr du dq dt dp w_
      rintro ⟨aA,aB,aC,aD,aw,aE,aF,aJ,aL,aQ,al,ao,aG,aM,aO,aN,aU,aV,aW,aX,a6,a5,a4,aZ,a7,hI⟩
      exact ⟨aA,fun _=>rfl,aC,aD,aw,aE,aF,aJ,aL,aQ,al,ao,aG,aM,aO,aN,aU,aV,aW,aX,a6,a5,a4,aZ,a7,hI⟩
     ·intro D aY cc ij cI cZ cK df de c9 c8 dg db dd dz dk dn cP cO cQ cS bT bS cW dr du dq dt dp w_
      rintro ⟨aA,aB,aC,aD,aw,aE,aF,aJ,aL,aQ,al,ao,aG,aM,aO,aN,aU,aV,aW,aX,a6,a5,a4,aZ,a7,hI⟩
      obtain rfl:=aA cc
      obtain rfl:=aB ij
      refine bL (by omega) ?_
      exact ⟨aA,aB,fun _=>rfl,aD,aw,aE,aF,aJ,aL,aQ,al,ao,aG,aM,aO,aN,aU,aV,aW,aX,a6,a5,a4,aZ,a7,hI⟩
     ·intro D aY  cI cZ cK df de c9 c8 dg db dd dz dk dn cP cO cQ cS bT bS cW dr du dq dt dp w_
      rintro ⟨aA,aB,aC,aD,aw,aE,aF,aJ,aL,aQ,al,ao,aG,aM,aO,aN,aU,aV,aW,aX,a6,a5,a4,aZ,a7,hI⟩
      exact ⟨aA,aB,aC,fun _=>rfl,aw,aE,aF,aJ,aL,aQ,al,ao,aG,aM,aO,aN,aU,aV,aW,aX,a6,a5,a4,aZ,a7,hI⟩
     ·intro D aY dB cI cZ cK df de c9 c8 dg db dd dz dk dn cP cO cQ cS bT bS cW dr du dq dt dp w_
      rintro ⟨aA,aB,aC,aD,aw,aE,aF,aJ,aL,aQ,al,ao,aG,aM,aO,aN,aU,aV,aW,aX,a6,a5,a4,aZ,a7,hI⟩
      obtain rfl:=aD dB
      refine fA bg ?_
      exact ⟨aA,aB,aC,aD,fun _=>rfl,aE,aF,aJ,aL,aQ,al,ao,aG,aM,aO,aN,aU,aV,aW,aX,a6,a5,a4,aZ,a7,hI⟩
     ·intro D aY eq dJ cI cZ cK df de c9 c8 dg db dd dz dk dn cP cO cQ cS bT bS cW dr du dq dt dp w_
      rintro ⟨aA,aB,aC,aD,aw,aE,aF,aJ,aL,aQ,al,ao,aG,aM,aO,aN,aU,aV,aW,aX,a6,a5,a4,aZ,a7,hI⟩
      obtain rfl:=aC eq
      obtain rfl:=aw dJ
      refine zS (by omega) ?_
      exact ⟨aA,aB,aC,aD,aw,fun _=>rfl,aF,aJ,aL,aQ,al,ao,aG,aM,aO,aN,aU,aV,aW,aX,a6,a5,a4,aZ,a7,hI⟩
     ·intro D aY d3 cI cZ cK df de c9 c8 dg db dd dz dk dn cP cO cQ cS bT bS cW dr du dq dt dp w_
      rintro ⟨aA,aB,aC,aD,aw,aE,aF,aJ,aL,aQ,al,ao,aG,aM,aO,aN,aU,aV,aW,aX,a6,a5,a4,aZ,a7,hI⟩
      obtain rfl:=aE d3
      exact ⟨aA,aB,aC,aD,aw,aE,fun _=>rfl,aJ,aL,aQ,al,ao,aG,aM,aO,aN,aU,aV,aW,aX,a6,a5,a4,aZ,a7,hI⟩
     ·intro D aY c4 cI cZ cK df de c9 c8 dg db dd dz dk dn cP cO cQ cS bT bS cW dr du dq dt dp w_
      rintro ⟨aA,aB,aC,aD,aw,aE,aF,aJ,aL,aQ,al,ao,aG,aM,aO,aN,aU,aV,aW,aX,a6,a5,a4,aZ,a7,hI⟩
      obtain rfl:=aF c4
      refine ad ?_
      exact ⟨aA,aB,aC,aD,aw,aE,aF,fun _=>rfl,aL,aQ,al,ao,aG,aM,aO,aN,aU,aV,aW,aX,a6,a5,a4,aZ,a7,hI⟩
     ·intro D aY c4 cI cZ cK df de c9 c8 dg db dd dz dk dn cP cO cQ cS bT bS cW dr du dq dt dp w_
      rintro ⟨aA,aB,aC,aD,aw,aE,aF,aJ,aL,aQ,al,ao,aG,aM,aO,aN,aU,aV,aW,aX,a6,a5,a4,aZ,a7,hI⟩
      obtain rfl:=aF c4
      refine ad ?_
      exact ⟨aA,aB,aC,aD,aw,aE,aF,aJ,fun _=>rfl,aQ,al,ao,aG,aM,aO,aN,aU,aV,aW,aX,a6,a5,a4,aZ,a7,hI⟩
     ·intro D aY c4 cI cZ cK df de c9 c8 dg db dd dz dk dn cP cO cQ cS bT bS cW dr du dq dt dp w_
      rintro ⟨aA,aB,aC,aD,aw,aE,aF,aJ,aL,aQ,al,ao,aG,aM,aO,aN,aU,aV,aW,aX,a6,a5,a4,aZ,a7,hI⟩
      obtain rfl:=aF c4
      refine ad ?_
      exact ⟨aA,aB,aC,aD,aw,aE,aF,aJ,aL,fun _=>rfl,al,ao,aG,aM,aO,aN,aU,aV,aW,aX,a6,a5,a4,aZ,a7,hI⟩
     ·intro D aY c4 cI cZ cK df de c9 c8 dg db dd dz dk dn cP cO cQ cS bT bS cW dr du dq dt dp w_
      rintro ⟨aA,aB,aC,aD,aw,aE,aF,aJ,aL,aQ,al,ao,aG,aM,aO,aN,aU,aV,aW,aX,a6,a5,a4,aZ,a7,hI⟩
      obtain rfl:=aF c4
      refine ad ?_
      exact ⟨aA,aB,aC,aD,aw,aE,aF,aJ,aL,aQ,fun _=>rfl,ao,aG,aM,aO,aN,aU,aV,aW,aX,a6,a5,a4,aZ,a7,hI⟩
     ·intro D aY Ik lJ mo cI cZ cK df de c9 c8 dg db dd dz dk dn cP cO cQ cS bT bS cW dr du dq dt dp w_
      rintro ⟨aA,aB,aC,aD,aw,aE,aF,aJ,aL,aQ,al,ao,aG,aM,aO,aN,aU,aV,aW,aX,a6,a5,a4,aZ,a7,hI⟩
      obtain rfl:=aQ Ik
      obtain rfl:=al lJ
      obtain rfl:=aF mo
      refine ad ?_; refine bL (by omega) ?_
      exact ⟨aA,aB,aC,aD,aw,aE,aF,aJ,aL,aQ,al,fun _=>rfl,aG,aM,aO,aN,aU,aV,aW,aX,a6,a5,a4,aZ,a7,hI⟩
     ·intro D aY ed gp FK AV cI cZ cK df de c9 c8 dg db dd dz dk dn cP cO cQ cS bT bS cW dr du dq dt dp w_
      rintro ⟨aA,aB,aC,aD,aw,aE,aF,aJ,aL,aQ,al,ao,aG,aM,aO,aN,aU,aV,aW,aX,a6,a5,a4,aZ,a7,hI⟩
      obtain rfl:=aJ ed
      obtain rfl:=aL gp
      obtain rfl:=ao FK
      obtain rfl:=aF AV
      refine ad ?_; refine za bg (by omega) (by omega) ?_
      exact ⟨aA,aB,aC,aD,aw,aE,aF,aJ,aL,aQ,al,ao,fun _=>rfl,aM,aO,aN,aU,aV,aW,aX,a6,a5,a4,aZ,a7,hI⟩
     ·intro D aY c4 cI cZ cK df de c9 c8 dg db dd dz dk dn cP cO cQ cS bT bS cW dr du dq dt dp w_
      rintro ⟨aA,aB,aC,aD,aw,aE,aF,aJ,aL,aQ,al,ao,aG,aM,aO,aN,aU,aV,aW,aX,a6,a5,a4,aZ,a7,hI⟩
      obtain rfl:=aF c4
      refine ad ?_
      exact ⟨aA,aB,aC,aD,aw,aE,aF,aJ,aL,aQ,al,ao,aG,fun _=>rfl,aO,aN,aU,aV,aW,aX,a6,a5,a4,aZ,a7,hI⟩
     ·intro D aY c4 cI cZ cK df de c9 c8 dg db dd dz dk dn cP cO cQ cS bT bS cW dr du dq dt dp w_
      rintro ⟨aA,aB,aC,aD,aw,aE,aF,aJ,aL,aQ,al,ao,aG,aM,aO,aN,aU,aV,aW,aX,a6,a5,a4,aZ,a7,hI⟩
      obtain rfl:=aF c4
      refine ad ?_
      exact ⟨aA,aB,aC,aD,aw,aE,aF,aJ,aL,aQ,al,ao,aG,aM,fun _=>rfl,aN,aU,aV,aW,aX,a6,a5,a4,aZ,a7,hI⟩
     ·intro D aY ib wb mo cI cZ cK df de c9 c8 dg db dd dz dk dn cP cO cQ cS bT bS cW dr du dq dt dp w_
      rintro ⟨aA,aB,aC,aD,aw,aE,aF,aJ,aL,aQ,al,ao,aG,aM,aO,aN,aU,aV,aW,aX,a6,a5,a4,aZ,a7,hI⟩
      obtain rfl:=aM ib
      obtain rfl:=aO wb
      obtain rfl:=aF mo
      refine ad ?_; refine bi cG hj ?_
      exact ⟨aA,aB,aC,aD,aw,aE,aF,aJ,aL,aQ,al,ao,aG,aM,aO,fun _=>rfl,aU,aV,aW,aX,a6,a5,a4,aZ,a7,hI⟩
     ·intro D aY AU ge cI cZ cK df de c9 c8 dg db dd dz dk dn cP cO cQ cS bT bS cW dr du dq dt dp w_
      rintro ⟨aA,aB,aC,aD,aw,aE,aF,aJ,aL,aQ,al,ao,aG,aM,aO,aN,aU,aV,aW,aX,a6,a5,a4,aZ,a7,hI⟩
      obtain rfl:=aN AU
      obtain rfl:=aF ge
      refine ad ?_; refine dM bl ((hI.cellS hS).trans hcx) ?_
      exact ⟨aA,aB,aC,aD,aw,aE,aF,aJ,aL,aQ,al,ao,aG,aM,aO,aN,fun _=>rfl,aV,aW,aX,a6,a5,a4,aZ,a7,hI⟩
     ·intro D aY kK xi mo cI cZ cK df de c9 c8 dg db dd dz dk dn cP cO cQ cS bT bS cW dr du dq dt dp w_
      rintro ⟨aA,aB,aC,aD,aw,aE,aF,aJ,aL,aQ,al,ao,aG,aM,aO,aN,aU,aV,aW,aX,a6,a5,a4,aZ,a7,hI⟩
      obtain rfl:=aG kK
      obtain rfl:=aU xi
      obtain rfl:=aF mo
      refine ad ?_; refine cL ?_; rw [hq]
      exact ⟨aA,aB,aC,aD,aw,aE,aF,aJ,aL,aQ,al,ao,aG,aM,aO,aN,aU,fun _=>rfl,aW,aX,a6,a5,a4,aZ,a7,hI⟩
     ·intro D aY c4 Gz cI cZ cK df de c9 c8 dg db dd dz dk dn cP cO cQ cS bT bS cW dr du dq dt dp w_
      rintro ⟨aA,aB,aC,aD,aw,aE,aF,aJ,aL,aQ,al,ao,aG,aM,aO,aN,aU,aV,aW,aX,a6,a5,a4,aZ,a7,hI⟩
      obtain rfl:=aF c4
      obtain rfl:=aV Gz
      refine ah ?_
      exact ⟨aA,aB,aC,aD,aw,aE,aF,aJ,aL,aQ,al,ao,aG,aM,aO,aN,aU,aV,fun _=>rfl,aX,a6,a5,a4,aZ,a7,hI⟩
     ·intro D aY s3 ge cI cZ cK df de c9 c8 dg db dd dz dk dn cP cO cQ cS bT bS cW dr du dq dt dp w_
      rintro ⟨aA,aB,aC,aD,aw,aE,aF,aJ,aL,aQ,al,ao,aG,aM,aO,aN,aU,aV,aW,aX,a6,a5,a4,aZ,a7,hI⟩
      obtain rfl:=aW s3
      exact ⟨aA,aB,aC,aD,aw,aE,aF,aJ,aL,aQ,al,ao,aG,aM,aO,aN,aU,aV,aW,fun _=>rfl,a6,a5,a4,aZ,a7,hI⟩
     ·intro D aY gH cI cZ cK df de c9 c8 dg db dd dz dk dn cP cO cQ cS bT bS cW dr du dq dt dp w_
      rintro ⟨aA,aB,aC,aD,aw,aE,aF,aJ,aL,aQ,al,ao,aG,aM,aO,aN,aU,aV,aW,aX,a6,a5,a4,aZ,a7,hI⟩
      obtain rfl:=aX gH
      refine ad ?_
      exact ⟨aA,aB,aC,aD,aw,aE,aF,aJ,aL,aQ,al,ao,aG,aM,aO,aN,aU,aV,aW,aX,fun _=>rfl,a5,a4,aZ,a7,hI⟩
     ·intro D aY gH cI cZ cK df de c9 c8 dg db dd dz dk dn cP cO cQ cS bT bS cW dr du dq dt dp w_
      rintro ⟨aA,aB,aC,aD,aw,aE,aF,aJ,aL,aQ,al,ao,aG,aM,aO,aN,aU,aV,aW,aX,a6,a5,a4,aZ,a7,hI⟩
      obtain rfl:=aX gH
      refine ad ?_
      exact ⟨aA,aB,aC,aD,aw,aE,aF,aJ,aL,aQ,al,ao,aG,aM,aO,aN,aU,aV,aW,aX,a6,fun _=>rfl,a4,aZ,a7,hI⟩
     ·intro D aY yM Fl cI cZ cK df de c9 c8 dg db dd dz dk dn cP cO cQ cS bT bS cW dr du dq dt dp w_
      rintro ⟨aA,aB,aC,aD,aw,aE,aF,aJ,aL,aQ,al,ao,aG,aM,aO,aN,aU,aV,aW,aX,a6,a5,a4,aZ,a7,hI⟩
      obtain rfl:=a5 yM
      obtain rfl:=aX Fl
      refine ad ?_; refine fA bg ?_
      exact ⟨aA,aB,aC,aD,aw,aE,aF,aJ,aL,aQ,al,ao,aG,aM,aO,aN,aU,aV,aW,aX,a6,a5,fun _=>rfl,aZ,a7,hI⟩
     ·intro D aY yI GQ GH cI cZ cK df de c9 c8 dg db dd dz dk dn cP cO cQ cS bT bS cW dr du dq dt dp w_
      rintro ⟨aA,aB,aC,aD,aw,aE,aF,aJ,aL,aQ,al,ao,aG,aM,aO,aN,aU,aV,aW,aX,a6,a5,a4,aZ,a7,hI⟩
      obtain rfl:=a6 yI
      obtain rfl:=a4 GQ
      obtain rfl:=aX GH
      refine ad ?_; refine d6 ?_
      exact ⟨aA,aB,aC,aD,aw,aE,aF,aJ,aL,aQ,al,ao,aG,aM,aO,aN,aU,aV,aW,aX,a6,a5,a4,fun _=>rfl,a7,hI⟩
     ·intro D aY gH Gc cI cZ cK df de c9 c8 dg db dd dz dk dn cP cO cQ cS bT bS cW dr du dq dt dp w_
      rintro ⟨aA,aB,aC,aD,aw,aE,aF,aJ,aL,aQ,al,ao,aG,aM,aO,aN,aU,aV,aW,aX,a6,a5,a4,aZ,a7,hI⟩
      obtain rfl:=aX gH
      obtain rfl:=aZ Gc
      refine ah ?_
      exact ⟨aA,aB,aC,aD,aw,aE,aF,aJ,aL,aQ,al,ao,aG,aM,aO,aN,aU,aV,aW,aX,a6,a5,a4,aZ,fun _=>rfl,hI⟩
     intro D DU ER E0 DM DV Eo y6 z0 AF nu nF ov je fi fp jt gK fT fY fE fm fw fF fC fD cI cZ cK df de c9 c8 dg db dd dz dk dn cP cO cQ cS bT bS cW dr du dq dt dp w_
     rintro ⟨aA,aB,aC,aD,aw,aE,aF,aJ,aL,aQ,al,ao,aG,aM,aO,aN,aU,aV,aW,aX,a6,a5,a4,aZ,a7,hI⟩
     obtain rfl:=a7 DU
     obtain rfl:=aZ ER
     obtain rfl:=a4 E0
     obtain rfl:=a5 DM
     obtain rfl:=a6 DV
     obtain rfl:=aX Eo
     obtain rfl:=aW y6
     obtain rfl:=aV z0
     obtain rfl:=aU AF
     obtain rfl:=aN nu
     obtain rfl:=aO nF
     obtain rfl:=aM ov
     obtain rfl:=aG je
     obtain rfl:=ao fi
     obtain rfl:=al fp
     obtain rfl:=aQ jt
     obtain rfl:=aL gK
     obtain rfl:=aJ fT
     obtain rfl:=aF fY
     obtain rfl:=aE fE
     obtain rfl:=aw fm
     obtain rfl:=aD fw
     obtain rfl:=aC fF
     obtain rfl:=aB fC
     obtain rfl:=aA fD
     clear aA aB aC aD aw aE aF aJ aL aQ al ao aG aM aO aN aU aV aW aX a6 a5 a4 aZ a7
     have hcut:cut s i (i+x.size)=bs x:=by rw [<- CZ (cut s i (i+x.size)),hq']
     refine bk (fun hb=>?_) (fun hb=>?_)
     ·refine bi cG hj ?_
      refine dM bl ((hI.cellS hS).trans hcx) ?_
      refine ⟨bs x,rfl,by rw [<- hcut,ES hlen]; omega,?_,hI⟩
      rw [if_pos ⟨decide_eq_true hlen,hcut,by omega⟩] at hbest
      exact hbest
     ·refine ⟨best,rfl,hbl,?_,hI⟩
      rw [if_neg] at hbest
      ·exact hbest
      ·rintro ⟨_,_,h3⟩
       omega
   ·skip
    refine ⟨fun D cI cZ cK df de c9 c8 dg db dd dz dk dn cP cO cQ cS bT bS cW dr du dq dt dp w_=>(D 0=true->dp=.int .i64 (i:Int))/\(D 1=true->dt=.int .i64 (x.size:Int))/\(D 2=true->dq=.int .i64 ((i+x.size:Nat):Int))/\(D 3=true->du=.string (st s))/\(D 4=true->dr=.int .i64 (s.length:Int))/\(D 5=true->cW=.bool false)/\(D 6=true->bS=.bool false)/\(D 7=true->bT=undef)/\(D 8=true->cS=undef)/\(D 9=true->cQ=undef)/\(D 10=true->cO=undef)/\(D 11=true->cP=undef)/\(D 12=true->dn=undef)/\(D 13=true->dk=undef)/\(D 14=true->dz=undef)/\(D 15=true->dd=undef)/\(D 16=true->db=undef)/\(D 17=true->dg=undef)/\(D 18=true->c8=.bool false)/\(D 19=true->c9=.bool false)/\(D 20=true->de=undef)/\(D 21=true->df=undef)/\(D 22=true->cK=undef)/\(D 23=true->cZ=undef)/\(D 24=true->cI=.bool false)/\Inv w [] [] S1 w_,⟨ae,ae,ae,ae,ae,ae,ae,ae,ae,ae,ae,ae,ae,ae,ae,ae,ae,ae,ae,ae,ae,ae,ae,ae,ae,hI.draw⟩,⟨?_,?_,?_,?_,?_,?_,?_,?_,?_,?_,?_,?_,?_,?_,?_,?_,?_,?_,?_,?_,?_,?_,?_,?_,?_,trivial⟩,?_⟩
    ·intro D aY  cI cZ cK df de c9 c8 dg db dd dz dk dn cP cO cQ cS bT bS cW dr du dq dt dp w_
     rintro ⟨aA,aB,aC,aD,aw,aE,aF,aJ,aL,aQ,al,ao,aG,aM,aO,aN,aU,aV,aW,aX,a6,a5,a4,aZ,a7,hI⟩
     exact ⟨fun _=>rfl,aB,aC,aD,aw,aE,aF,aJ,aL,aQ,al,ao,aG,aM,aO,aN,aU,aV,aW,aX,a6,a5,a4,aZ,a7,hI⟩
    ·intro D aY  cI cZ cK df de c9 c8 dg db dd dz dk dn cP cO cQ cS bT bS cW dr du dq dt dp w_
     rintro ⟨aA,aB,aC,aD,aw,aE,aF,aJ,aL,aQ,al,ao,aG,aM,aO,aN,aU,aV,aW,aX,a6,a5,a4,aZ,a7,hI⟩
     exact ⟨aA,fun _=>rfl,aC,aD,aw,aE,aF,aJ,aL,aQ,al,ao,aG,aM,aO,aN,aU,aV,aW,aX,a6,a5,a4,aZ,a7,hI⟩
    ·intro D aY cc ij cI cZ cK df de c9 c8 dg db dd dz dk dn cP cO cQ cS bT bS cW dr du dq dt dp w_
     rintro ⟨aA,aB,aC,aD,aw,aE,aF,aJ,aL,aQ,al,ao,aG,aM,aO,aN,aU,aV,aW,aX,a6,a5,a4,aZ,a7,hI⟩
     obtain rfl:=aA cc
     obtain rfl:=aB ij
     refine bL (by omega) ?_
     exact ⟨aA,aB,fun _=>rfl,aD,aw,aE,aF,aJ,aL,aQ,al,ao,aG,aM,aO,aN,aU,aV,aW,aX,a6,a5,a4,aZ,a7,hI⟩
    ·intro D aY  cI cZ cK df de c9 c8 dg db dd dz dk dn cP cO cQ cS bT bS cW dr du dq dt dp w_
     rintro ⟨aA,aB,aC,aD,aw,aE,aF,aJ,aL,aQ,al,ao,aG,aM,aO,aN,aU,aV,aW,aX,a6,a5,a4,aZ,a7,hI⟩
     exact ⟨aA,aB,aC,fun _=>rfl,aw,aE,aF,aJ,aL,aQ,al,ao,aG,aM,aO,aN,aU,aV,aW,aX,a6,a5,a4,aZ,a7,hI⟩
    ·intro D aY dB cI cZ cK df de c9 c8 dg db dd dz dk dn cP cO cQ cS bT bS cW dr du dq dt dp w_
     rintro ⟨aA,aB,aC,aD,aw,aE,aF,aJ,aL,aQ,al,ao,aG,aM,aO,aN,aU,aV,aW,aX,a6,a5,a4,aZ,a7,hI⟩
     obtain rfl:=aD dB
     refine fA bg ?_
     exact ⟨aA,aB,aC,aD,fun _=>rfl,aE,aF,aJ,aL,aQ,al,ao,aG,aM,aO,aN,aU,aV,aW,aX,a6,a5,a4,aZ,a7,hI⟩
    ·intro D aY eq dJ cI cZ cK df de c9 c8 dg db dd dz dk dn cP cO cQ cS bT bS cW dr du dq dt dp w_
     rintro ⟨aA,aB,aC,aD,aw,aE,aF,aJ,aL,aQ,al,ao,aG,aM,aO,aN,aU,aV,aW,aX,a6,a5,a4,aZ,a7,hI⟩
     obtain rfl:=aC eq
     obtain rfl:=aw dJ
     refine Ma (by omega) ?_
     exact ⟨aA,aB,aC,aD,aw,fun _=>rfl,aF,aJ,aL,aQ,al,ao,aG,aM,aO,aN,aU,aV,aW,aX,a6,a5,a4,aZ,a7,hI⟩
    ·intro D aY d3 cI cZ cK df de c9 c8 dg db dd dz dk dn cP cO cQ cS bT bS cW dr du dq dt dp w_
     rintro ⟨aA,aB,aC,aD,aw,aE,aF,aJ,aL,aQ,al,ao,aG,aM,aO,aN,aU,aV,aW,aX,a6,a5,a4,aZ,a7,hI⟩
     obtain rfl:=aE d3
     exact ⟨aA,aB,aC,aD,aw,aE,fun _=>rfl,aJ,aL,aQ,al,ao,aG,aM,aO,aN,aU,aV,aW,aX,a6,a5,a4,aZ,a7,hI⟩
    ·intro D aY c4 cI cZ cK df de c9 c8 dg db dd dz dk dn cP cO cQ cS bT bS cW dr du dq dt dp w_
     rintro ⟨aA,aB,aC,aD,aw,aE,aF,aJ,aL,aQ,al,ao,aG,aM,aO,aN,aU,aV,aW,aX,a6,a5,a4,aZ,a7,hI⟩
     obtain rfl:=aF c4
     refine af (c:=false) (b:=true) (by decide) ?_
     exact ⟨aA,aB,aC,aD,aw,aE,aF,fun _=>rfl,aL,aQ,al,ao,aG,aM,aO,aN,aU,aV,aW,aX,a6,a5,a4,aZ,a7,hI⟩
    ·intro D aY c4 cI cZ cK df de c9 c8 dg db dd dz dk dn cP cO cQ cS bT bS cW dr du dq dt dp w_
     rintro ⟨aA,aB,aC,aD,aw,aE,aF,aJ,aL,aQ,al,ao,aG,aM,aO,aN,aU,aV,aW,aX,a6,a5,a4,aZ,a7,hI⟩
     obtain rfl:=aF c4
     refine af (c:=false) (b:=true) (by decide) ?_
     exact ⟨aA,aB,aC,aD,aw,aE,aF,aJ,fun _=>rfl,aQ,al,ao,aG,aM,aO,aN,aU,aV,aW,aX,a6,a5,a4,aZ,a7,hI⟩
    ·intro D aY c4 cI cZ cK df de c9 c8 dg db dd dz dk dn cP cO cQ cS bT bS cW dr du dq dt dp w_
     rintro ⟨aA,aB,aC,aD,aw,aE,aF,aJ,aL,aQ,al,ao,aG,aM,aO,aN,aU,aV,aW,aX,a6,a5,a4,aZ,a7,hI⟩
     obtain rfl:=aF c4
     refine af (c:=false) (b:=true) (by decide) ?_
     exact ⟨aA,aB,aC,aD,aw,aE,aF,aJ,aL,fun _=>rfl,al,ao,aG,aM,aO,aN,aU,aV,aW,aX,a6,a5,a4,aZ,a7,hI⟩
    ·intro D aY c4 cI cZ cK df de c9 c8 dg db dd dz dk dn cP cO cQ cS bT bS cW dr du dq dt dp w_
     rintro ⟨aA,aB,aC,aD,aw,aE,aF,aJ,aL,aQ,al,ao,aG,aM,aO,aN,aU,aV,aW,aX,a6,a5,a4,aZ,a7,hI⟩
     obtain rfl:=aF c4
     refine af (c:=false) (b:=true) (by decide) ?_
     exact ⟨aA,aB,aC,aD,aw,aE,aF,aJ,aL,aQ,fun _=>rfl,ao,aG,aM,aO,aN,aU,aV,aW,aX,a6,a5,a4,aZ,a7,hI⟩
    ·intro D aY Ik lJ mo cI cZ cK df de c9 c8 dg db dd dz dk dn cP cO cQ cS bT bS cW dr du dq dt dp w_
     rintro ⟨aA,aB,aC,aD,aw,aE,aF,aJ,aL,aQ,al,ao,aG,aM,aO,aN,aU,aV,aW,aX,a6,a5,a4,aZ,a7,hI⟩
     obtain rfl:=aQ Ik
     obtain rfl:=al lJ
     obtain rfl:=aF mo
     refine af (c:=false) (b:=true) (by decide) ?_
     exact ⟨aA,aB,aC,aD,aw,aE,aF,aJ,aL,aQ,al,fun _=>rfl,aG,aM,aO,aN,aU,aV,aW,aX,a6,a5,a4,aZ,a7,hI⟩
    ·intro D aY ed gp FK AV cI cZ cK df de c9 c8 dg db dd dz dk dn cP cO cQ cS bT bS cW dr du dq dt dp w_
     rintro ⟨aA,aB,aC,aD,aw,aE,aF,aJ,aL,aQ,al,ao,aG,aM,aO,aN,aU,aV,aW,aX,a6,a5,a4,aZ,a7,hI⟩
     obtain rfl:=aJ ed
     obtain rfl:=aL gp
     obtain rfl:=ao FK
     obtain rfl:=aF AV
     refine af (c:=false) (b:=true) (by decide) ?_
     exact ⟨aA,aB,aC,aD,aw,aE,aF,aJ,aL,aQ,al,ao,fun _=>rfl,aM,aO,aN,aU,aV,aW,aX,a6,a5,a4,aZ,a7,hI⟩
    ·intro D aY c4 cI cZ cK df de c9 c8 dg db dd dz dk dn cP cO cQ cS bT bS cW dr du dq dt dp w_
     rintro ⟨aA,aB,aC,aD,aw,aE,aF,aJ,aL,aQ,al,ao,aG,aM,aO,aN,aU,aV,aW,aX,a6,a5,a4,aZ,a7,hI⟩
     obtain rfl:=aF c4
     refine af (c:=false) (b:=true) (by decide) ?_
     exact ⟨aA,aB,aC,aD,aw,aE,aF,aJ,aL,aQ,al,ao,aG,fun _=>rfl,aO,aN,aU,aV,aW,aX,a6,a5,a4,aZ,a7,hI⟩
    ·intro D aY c4 cI cZ cK df de c9 c8 dg db dd dz dk dn cP cO cQ cS bT bS cW dr du dq dt dp w_
     rintro ⟨aA,aB,aC,aD,aw,aE,aF,aJ,aL,aQ,al,ao,aG,aM,aO,aN,aU,aV,aW,aX,a6,a5,a4,aZ,a7,hI⟩
     obtain rfl:=aF c4
     refine af (c:=false) (b:=true) (by decide) ?_
     exact ⟨aA,aB,aC,aD,aw,aE,aF,aJ,aL,aQ,al,ao,aG,aM,fun _=>rfl,aN,aU,aV,aW,aX,a6,a5,a4,aZ,a7,hI⟩
    ·intro D aY ib wb mo cI cZ cK df de c9 c8 dg db dd dz dk dn cP cO cQ cS bT bS cW dr du dq dt dp w_
     rintro ⟨aA,aB,aC,aD,aw,aE,aF,aJ,aL,aQ,al,ao,aG,aM,aO,aN,aU,aV,aW,aX,a6,a5,a4,aZ,a7,hI⟩
     obtain rfl:=aM ib
     obtain rfl:=aO wb
     obtain rfl:=aF mo
     refine af (c:=false) (b:=true) (by decide) ?_
     exact ⟨aA,aB,aC,aD,aw,aE,aF,aJ,aL,aQ,al,ao,aG,aM,aO,fun _=>rfl,aU,aV,aW,aX,a6,a5,a4,aZ,a7,hI⟩
    ·intro D aY AU ge cI cZ cK df de c9 c8 dg db dd dz dk dn cP cO cQ cS bT bS cW dr du dq dt dp w_
     rintro ⟨aA,aB,aC,aD,aw,aE,aF,aJ,aL,aQ,al,ao,aG,aM,aO,aN,aU,aV,aW,aX,a6,a5,a4,aZ,a7,hI⟩
     obtain rfl:=aN AU
     obtain rfl:=aF ge
     refine af (c:=false) (b:=true) (by decide) ?_
     exact ⟨aA,aB,aC,aD,aw,aE,aF,aJ,aL,aQ,al,ao,aG,aM,aO,aN,fun _=>rfl,aV,aW,aX,a6,a5,a4,aZ,a7,hI⟩
    ·intro D aY kK xi mo cI cZ cK df de c9 c8 dg db dd dz dk dn cP cO cQ cS bT bS cW dr du dq dt dp w_
     rintro ⟨aA,aB,aC,aD,aw,aE,aF,aJ,aL,aQ,al,ao,aG,aM,aO,aN,aU,aV,aW,aX,a6,a5,a4,aZ,a7,hI⟩
     obtain rfl:=aG kK
     obtain rfl:=aU xi
     obtain rfl:=aF mo
     refine af (c:=false) (b:=true) (by decide) ?_
     exact ⟨aA,aB,aC,aD,aw,aE,aF,aJ,aL,aQ,al,ao,aG,aM,aO,aN,aU,fun _=>rfl,aW,aX,a6,a5,a4,aZ,a7,hI⟩
    ·intro D aY c4 Gz cI cZ cK df de c9 c8 dg db dd dz dk dn cP cO cQ cS bT bS cW dr du dq dt dp w_
     rintro ⟨aA,aB,aC,aD,aw,aE,aF,aJ,aL,aQ,al,ao,aG,aM,aO,aN,aU,aV,aW,aX,a6,a5,a4,aZ,a7,hI⟩
     obtain rfl:=aF c4
     obtain rfl:=aV Gz
     refine ag ?_
     exact ⟨aA,aB,aC,aD,aw,aE,aF,aJ,aL,aQ,al,ao,aG,aM,aO,aN,aU,aV,fun _=>rfl,aX,a6,a5,a4,aZ,a7,hI⟩
    ·intro D aY s3 ge cI cZ cK df de c9 c8 dg db dd dz dk dn cP cO cQ cS bT bS cW dr du dq dt dp w_
     rintro ⟨aA,aB,aC,aD,aw,aE,aF,aJ,aL,aQ,al,ao,aG,aM,aO,aN,aU,aV,aW,aX,a6,a5,a4,aZ,a7,hI⟩
     obtain rfl:=aW s3
     exact ⟨aA,aB,aC,aD,aw,aE,aF,aJ,aL,aQ,al,ao,aG,aM,aO,aN,aU,aV,aW,fun _=>rfl,a6,a5,a4,aZ,a7,hI⟩
    ·intro D aY gH cI cZ cK df de c9 c8 dg db dd dz dk dn cP cO cQ cS bT bS cW dr du dq dt dp w_
     rintro ⟨aA,aB,aC,aD,aw,aE,aF,aJ,aL,aQ,al,ao,aG,aM,aO,aN,aU,aV,aW,aX,a6,a5,a4,aZ,a7,hI⟩
     obtain rfl:=aX gH
     refine af (c:=false) (b:=true) (by decide) ?_
     exact ⟨aA,aB,aC,aD,aw,aE,aF,aJ,aL,aQ,al,ao,aG,aM,aO,aN,aU,aV,aW,aX,fun _=>rfl,a5,a4,aZ,a7,hI⟩
    ·intro D aY gH cI cZ cK df de c9 c8 dg db dd dz dk dn cP cO cQ cS bT bS cW dr du dq dt dp w_
     rintro ⟨aA,aB,aC,aD,aw,aE,aF,aJ,aL,aQ,al,ao,aG,aM,aO,aN,aU,aV,aW,aX,a6,a5,a4,aZ,a7,hI⟩
     obtain rfl:=aX gH
     refine af (c:=false) (b:=true) (by decide) ?_
     exact ⟨aA,aB,aC,aD,aw,aE,aF,aJ,aL,aQ,al,ao,aG,aM,aO,aN,aU,aV,aW,aX,a6,fun _=>rfl,a4,aZ,a7,hI⟩
    ·intro D aY yM Fl cI cZ cK df de c9 c8 dg db dd dz dk dn cP cO cQ cS bT bS cW dr du dq dt dp w_
     rintro ⟨aA,aB,aC,aD,aw,aE,aF,aJ,aL,aQ,al,ao,aG,aM,aO,aN,aU,aV,aW,aX,a6,a5,a4,aZ,a7,hI⟩
     obtain rfl:=a5 yM
     obtain rfl:=aX Fl
     refine af (c:=false) (b:=true) (by decide) ?_
     exact ⟨aA,aB,aC,aD,aw,aE,aF,aJ,aL,aQ,al,ao,aG,aM,aO,aN,aU,aV,aW,aX,a6,a5,fun _=>rfl,aZ,a7,hI⟩
    ·intro D aY yI GQ GH cI cZ cK df de c9 c8 dg db dd dz dk dn cP cO cQ cS bT bS cW dr du dq dt dp w_
     rintro ⟨aA,aB,aC,aD,aw,aE,aF,aJ,aL,aQ,al,ao,aG,aM,aO,aN,aU,aV,aW,aX,a6,a5,a4,aZ,a7,hI⟩
     obtain rfl:=a6 yI
     obtain rfl:=a4 GQ
     obtain rfl:=aX GH
     refine af (c:=false) (b:=true) (by decide) ?_
     exact ⟨aA,aB,aC,aD,aw,aE,aF,aJ,aL,aQ,al,ao,aG,aM,aO,aN,aU,aV,aW,aX,a6,a5,a4,fun _=>rfl,a7,hI⟩
    ·intro D aY gH Gc cI cZ cK df de c9 c8 dg db dd dz dk dn cP cO cQ cS bT bS cW dr du dq dt dp w_
     rintro ⟨aA,aB,aC,aD,aw,aE,aF,aJ,aL,aQ,al,ao,aG,aM,aO,aN,aU,aV,aW,aX,a6,a5,a4,aZ,a7,hI⟩
     obtain rfl:=aX gH
     obtain rfl:=aZ Gc
     refine ag ?_
     exact ⟨aA,aB,aC,aD,aw,aE,aF,aJ,aL,aQ,al,ao,aG,aM,aO,aN,aU,aV,aW,aX,a6,a5,a4,aZ,fun _=>rfl,hI⟩
    intro D DU ER E0 DM DV Eo y6 z0 AF nu nF ov je fi fp jt gK fT fY fE fm fw fF fC fD cI cZ cK df de c9 c8 dg db dd dz dk dn cP cO cQ cS bT bS cW dr du dq dt dp w_
    rintro ⟨aA,aB,aC,aD,aw,aE,aF,aJ,aL,aQ,al,ao,aG,aM,aO,aN,aU,aV,aW,aX,a6,a5,a4,aZ,a7,hI⟩
    obtain rfl:=a7 DU
    obtain rfl:=aZ ER
    obtain rfl:=a4 E0
    obtain rfl:=a5 DM
    obtain rfl:=a6 DV
    obtain rfl:=aX Eo
    obtain rfl:=aW y6
    obtain rfl:=aV z0
    obtain rfl:=aU AF
    obtain rfl:=aN nu
    obtain rfl:=aO nF
    obtain rfl:=aM ov
    obtain rfl:=aG je
    obtain rfl:=ao fi
    obtain rfl:=al fp
    obtain rfl:=aQ jt
    obtain rfl:=aL gK
    obtain rfl:=aJ fT
    obtain rfl:=aF fY
    obtain rfl:=aE fE
    obtain rfl:=aw fm
    obtain rfl:=aD fw
    obtain rfl:=aC fF
    obtain rfl:=aB fC
    obtain rfl:=aA fD
    clear aA aB aC aD aw aE aF aJ aL aQ al ao aG aM aO aN aU aV aW aX a6 a5 a4 aZ a7
    refine a8 (fun hb=>by cases hb) (fun _=>?_)
    refine ⟨best,rfl,hbl,?_,hI⟩
    rw [if_neg] at hbest
    ·exact hbest
    ·rintro ⟨h1,_⟩
     rw [decide_eq_true_eq] at h1
     exact hlen h1
  intro t7 _ _ _ _ _ _ _ _ _ _ _ _ _ _ _ _ _ _ _ _ _ _ _ _ _ _ _ _ _ _ _ _ _ _ _ w'
  rintro ⟨best',rfl,hbl',hb',hI⟩
  refine bL (by omega) ?_
  exact ⟨⟨j+1,best',hj,rfl,rfl,hbl',hb',hI⟩,by simp [intOf]; omega⟩
 ·have:j=signs.length:=by omega
  subst this
  rw [List.drop_length,h8] at hbest
  rw [<- hbest] at hnm
  refine cL ?_
  refine bk (fun hb=>?_) (fun hb=>?_)
  ·have:best=[]:=by rw [<- CZ best,hb]
   exact iR hI hle (by rw [hnm,if_pos this]; rfl)
  ·have:¬ best=[]:=fun h=>hb (by rw [h])
   refine fA bg ?_
   refine bL (by omega) ?_
   exact iR hI hle (by rw [hnm,if_neg this]; rfl)
end
theorem uZ (s:Bs) (i:Nat):∀ (l:List ByteArray) (b:Bs),(∀ x∈l,x.size<=3)->b.length<=3->i+b.length<=s.length->i+(h8 s i l b).length<=s.length/\(h8 s i l b).length<=3
 | [],b,_,h2,h3=>⟨h3,h2⟩
 | x::l,b,h1,h2,h3=>by
  rw [h8]
  have hx:(bs x).length=x.size:=Array.length_toList
  split
  ·rename_i h
   exact uZ s i l _ (fun y hy=>h1 y (List.mem_cons_of_mem _ hy)) (by rw [hx]; exact h1 x (List.mem_cons_self ..)) (by rw [hx]; exact of_decide_eq_true h.1)
  ·exact uZ s i l _ (fun y hy=>h1 y (List.mem_cons_of_mem _ hy)) h2 h3
theorem JU (s:Bs):∀ (n e:Nat),e<=xT s n e/\xT s n e<=e+n
 | 0,e=>by simp [xT]
 | n+1,e=>by
  rw [xT]
  split
  ·have:=JU s n (e+1); omega
  ·omega
theorem lW {s:Bs} {i:Nat} {n:Bs} {e:Nat} (hi:i<s.length) (h:nj s i=some (n,e)):i<e/\e<=s.length/\n.length<=6/\n≠[]:=by
 have hl:=JU s (s.length - i) i
 have hb:=uZ s i signs [] FH (by simp) (by simpa using Nat.le_of_lt hi)
 unfold nj at h
 simp only [] at h
 split at h
 ·cases h
 ·split at h
  ·simp only [Option.some.injEq,Prod.mk.injEq] at h
   obtain ⟨rfl,rfl⟩:=h
   rename_i h1 h2
   have hc:=ES (s:=s) (a:=i) (b:=xT s (s.length - i) i) (by omega)
   refine ⟨h2,by omega,by omega,fun h=>?_⟩
   rw [h] at hc
   simp at hc
   omega
  ·split at h
   ·cases h
   ·simp only [Option.some.injEq,Prod.mk.injEq] at h
    obtain ⟨rfl,rfl⟩:=h
    rename_i h3
    have:0<(h8 s i signs []).length:=by
     cases he:h8 s i signs [] with
     | nil=>exact absurd he h3
     | cons a l=>simp
    exact ⟨by omega,by omega,by omega,h3⟩
def opV (o:Option (Bs × Nat)) (i:Nat):Value:=match o with
 | none=>.tuple #[.string ⟨#[]⟩,.int .i64 (i:Int)]
 | some (n,e)=>.tuple #[.string (st n),.int .i64 (e:Int)]
theorem MC {s:Bs} {i:Nat} {n:Bs} {e:Nat} (h:opF s i=some (n,e)):i<e/\e<=s.length/\n.length<=6/\n≠[]:=by
 unfold opF at h
 obtain ⟨fr,hfr⟩:∃ fr,fr=if sgn s i 32=true then i+1 else i:=⟨_,rfl⟩
 simp only [<- hfr] at h
 have hfi:i<=fr:=by rw [hfr]; split <;> omega
 split at h
 ·cases h
 rename_i hlt
 split at h
 ·cases h
 rename_i nm nx hnm
 obtain ⟨h1,h2,h3,h4⟩:=lW (by omega) hnm
 split at h
 ·cases h
 rename_i hc
 simp only [not_or,not_and,Bool.not_eq_false] at hc
 simp only [Option.some.injEq,Prod.mk.injEq] at h
 obtain ⟨rfl,rfl⟩:=h
 refine ⟨by split <;> omega,?_,h3,h4⟩
 split
 ·rename_i hw
  have:=gf (hc.2.2 hw)
  omega
 ·exact h2
section
attribute [local irreducible] Run CondV aj bd
theorem IQ {s:Bs} {i:Nat} (hs:s.length<=100000) (hi:i<=s.length) (S:az):Pure Tryz.prog L3 [.string (st s),.int .i64 (i:Int)] S (opV (opF s i) i):=by
 intro w hI
 refine DK ?_
 unfold CE
 obtain ⟨fr,hfr⟩:∃ fr,fr=if sgn s i 32=true then i+1 else i:=⟨_,rfl⟩
 have hfi:i<=fr/\fr<=i+1:=by rw [hfr]; split <;> omega
 obtain ⟨r,hr⟩:∃ r,r=opF s i:=⟨_,rfl⟩
 rw [<- hr]
 unfold opF at hr
 simp only [<- hfr] at hr
 refine ⟨fun t w'=>t=.int .i64 (fr:Int)/\Inv w [] [] S w',?_,?_⟩
 ·refine Run.callPure cU cT hI (cB s i 32 S) fun w' hI=>?_
  refine a8 (fun hb=>?_) (fun hb=>?_)
  ·refine bL (by omega) ?_
   rw [if_pos hb] at hfr
   exact ⟨by rw [hfr]; congr 1,hI⟩
  ·rw [if_neg (by rw [hb]; decide)] at hfr
   exact ⟨by rw [hfr],hI⟩
 intro t6 _ _ _ _ _ w'
 rintro ⟨rfl,hI⟩
 refine fA bg ?_
 refine nh ?_
 refine bk (fun hb=>?_) (fun hb=>?_)
 ·rw [if_pos (by omega)] at hr
  exact done hI (by rw [hr]; rfl)
 rw [if_neg (by omega)] at hr
 refine Run.callPure pq nR hI (mz (by omega) hs S) fun w' hI=>?_
 cases hnm:nj s fr with
 | none=>
  rw [hnm] at hr
  simp only [] at hr
  simp only [GK]
  refine bb rfl ?_
  refine bb rfl ?_
  refine ⟨fun t w'=>t=.bool true/\Inv w [] [] S w',?_,?_⟩
  ·refine zy (by omega) ?_
   repeat (first|refine ad ?_|refine af (by decide) ?_|refine ac ?_|refine ah ?_|refine ag ?_)
   exact ⟨rfl,hI⟩
  intro t33 _ _ _ _ _ _ w'
  rintro ⟨rfl,hI⟩
  exact a8 (fun _=>done hI (by rw [hr]; rfl)) (fun hb=>by cases hb)
 | some q=>
  obtain ⟨nm,nx⟩:=q
  rw [hnm] at hr
  simp only [] at hr
  obtain ⟨h1,h2,h3,h4⟩:=lW (by omega) hnm
  simp only [GK]
  refine bb (v:=.string (st nm)) rfl ?_
  refine bb (v:=.int .i64 (nx:Int)) rfl ?_
  refine ⟨fun t w'=>t=.bool (decide (dj (st nm)=0))/\Inv w [] [] S w',?_,?_⟩
  ·refine eD (by omega) ?_
   repeat (first|refine ad ?_|refine af (by decide) ?_|refine ac ?_|refine ah ?_|refine ag ?_)
   refine Run.callPure fO fL hI (ey _ S) fun w' hI=>?_
   refine bO ?_
   repeat (first|refine ad ?_|refine af (by decide) ?_|refine ac ?_|refine ah ?_|refine ag ?_)
   exact ⟨rfl,hI⟩
  intro t33 _ _ _ _ _ _ w'
  rintro ⟨rfl,hI⟩
  refine bk (fun hb=>?_) (fun hb=>?_)
  ·rw [if_pos (.inl hb)] at hr
   exact done hI (by rw [hr]; rfl)
  obtain ⟨word,hword⟩:∃ word,word=(decide (nm=[105,115]) || decide (nm=[109,111,100])):=⟨_,rfl⟩
  rw [<- hword] at hr
  refine ⟨fun t w'=>t=.bool word/\Inv w [] [] S w',?_,?_⟩
  ·refine zE (b:=[105,115]) ?_
   cases h5:decide (nm=[105,115])
   ·repeat (first|refine ad ?_|refine af (by decide) ?_|refine ac ?_|refine ah ?_|refine ag ?_)
    refine zE (b:=[109,111,100]) ?_
    repeat (first|refine ad ?_|refine af (by decide) ?_|refine ac ?_|refine ah ?_|refine ag ?_)
    exact ⟨by rw [hword,h5,Bool.false_or],hI⟩
   ·repeat (first|refine ad ?_|refine af (by decide) ?_|refine ac ?_|refine ah ?_|refine ag ?_)
    exact ⟨by rw [hword,h5,Bool.true_or],hI⟩
  intro t9 _ _ _ _ _ _ w'
  rintro ⟨rfl,hI⟩
  refine ⟨fun t w'=>t=.bool (decide (word≠decide (i<fr)) || (word && !sgn s nx 32))/\Inv w [] [] S w',?_,?_⟩
  ·refine d6 ?_
   refine LA yE ?_
   have e1:decide ((i:Int)<(fr:Int))=decide (i<fr):=by rw [decide_eq_decide]; omega
   rw [e1]
   cases h6:decide (i<fr) <;> cases word
   ·repeat (first|refine ad ?_|refine af (by decide) ?_|refine ac ?_|refine ah ?_|refine ag ?_)
    exact ⟨by rfl,hI⟩
   ·repeat (first|refine ad ?_|refine af (by decide) ?_|refine ac ?_|refine ah ?_|refine ag ?_)
    exact ⟨by rfl,hI⟩
   ·repeat (first|refine ad ?_|refine af (by decide) ?_|refine ac ?_|refine ah ?_|refine ag ?_)
    exact ⟨by rfl,hI⟩
   ·repeat (first|refine ad ?_|refine af (by decide) ?_|refine ac ?_|refine ah ?_|refine ag ?_)
    refine Run.callPure cU cT hI (cB s nx 32 S) fun w' hI=>?_
    refine cF ?_
    repeat (first|refine ad ?_|refine af (by decide) ?_|refine ac ?_|refine ah ?_|refine ag ?_)
    exact ⟨by simp,hI⟩
  intro t54 _ _ _ _ _ _ _ _ _ _ _ _ _ w'
  rintro ⟨rfl,hI⟩
  refine a8 (fun hb'=>?_) (fun hb'=>?_)
  ·rw [if_pos] at hr
   ·exact done hI (by rw [hr]; rfl)
   ·rw [Bool.or_eq_true,decide_eq_true_eq,Bool.and_eq_true,Bool.not_eq_true'] at hb'
    exact .inr hb'
  ·rw [if_neg] at hr
   ·refine ⟨fun t w'=>t=.int .i64 ((if word=true then nx+1 else nx:Nat):Int)/\Inv w [] [] S w',?_,?_⟩
    ·refine a8 (fun hw=>?_) (fun hw=>?_)
     ·refine bL (by omega) ?_
      exact ⟨by rw [if_pos hw]; congr 1,hI⟩
     ·exact ⟨by rw [if_neg (by rw [hw]; decide)],hI⟩
    intro t8 _ _ _ w'
    rintro ⟨rfl,hI⟩
    exact done hI (by rw [hr]; rfl)
   ·rw [Bool.or_eq_false_iff,decide_eq_false_iff_not] at hb'
    rintro (h|h|⟨h,h'⟩)
    ·exact hb h
    ·exact hb'.1 h
    ·rw [h,h'] at hb'
     simp at hb'
end
end Go.Proofs.YtemmhhdnlbmicaaGreat

/- Publishing what a call owns; what is published since. -/
namespace Go.Proofs.YtemmhhdnlbmicaaGreat
open Go Go.RowKit
/- a tree of one's own, published -/
theorem Inv.pubExt {w0 w:World} {X:List Nat} {A:List Item} {S:az} {L:bI} (h:Inv w0 X (A++bP L) S w) :
  ∃ S',Inv w0 X A S' w/\Ext w0.heap.size X S S'/\Ins S' L:=by
 obtain ⟨S',h1,h2,h3,h4⟩:=h.publishAll L
 refine ⟨S',h1,⟨h2,fun b o hb=>?_⟩,h3⟩
 rcases h4 b o hb with h5|h5
 ·exact .inl h5
 ·right
  exact h.new b (by rw [cH]; exact List.mem_append_right _ h5)
theorem Inv.pub1 {w0 w:World} {X:List Nat} {A:List Item} {S:az} {b:Nat} {o:Obj} (h:Inv w0 X (A++[.blk b o]) S w) :
  ∃ S',Inv w0 X A S' w/\Ext w0.heap.size X S S'/\S' b=some o:=by
 obtain ⟨S',h1,h2,h3⟩:=Inv.pubExt (A:=A) (L:=[(b,o)]) h
 exact ⟨S',h1,h2,h3 _ (List.mem_singleton.2 rfl)⟩
theorem Rows.monoR {α:Type} {k:Nat} {R R':List Value->α->Prop} {css:List (List Value)} {ys:List α} (h:Rows k R css ys) (hR:∀ cs y,R cs y->R' cs y):Rows k R' css ys:=⟨h.hc,h.hk,fun i h1 h2=>hR _ _ (h.hR i h1 h2)⟩
theorem Rows.one {α:Type} {k:Nat} {R:List Value->α->Prop} {cs:List Value} {y:α} (hR:R cs y) (hl:cs.length=k):Rows k R [cs] [y]:=by
 have:=(Rows.nil k R).snoc hR hl
 exact this
section
variable {P:Program} {w w0:World} {X:List Nat} {L:List Item} {S:az} {K:Value->World->Prop}
theorem Run.call0E {f:FuncId} {fn:Func} {args:List Value} {Post:Value->List Item->az->Prop}
  (hf:P.funcs[f]?=some fn) (hn:(fn.name == "runtime.NumGoroutine" || fn.body.isNone)=false) (h:Inv w0 X L S w) (hc:Tri P f args [] S Post)
  (hk:∀ v I' S' w',Post v I' S'->Ext w0.heap.size X S S'->Inv w0 X (L++I') S' w'->K v w'):Run P (aH (.func (.func f) #[] #[]) args) w K:=by
 refine Run.callP hf hn ((hc w h.nil.begin).mono ?_)
 rintro e w' ⟨v,I',S',rfl,hI,hE,hP⟩
 refine hk v I' S' w' hP ⟨hE.1,fun b o hb=>?_⟩ (Inv.step (A:=L) (B:=[]) (by simpa using h) hI hE.2)
 rcases hE.2 b o hb with h1|h1|h1
 ·exact .inl h1
 ·simp [bV] at h1
 ·exact .inr (.inr (Nat.le_trans h.size h1))
end
theorem Ext.trans {n:Nat} {Y:List Nat} {S S' S'':az} (h:Ext n Y S S') (h':Ext n Y S' S''):Ext n Y S S'':=by
 refine ⟨h.1.trans h'.1,fun b o hb=>?_⟩
 rcases h'.2 b o hb with h1|h1
 ·exact h.2 b o h1
 ·exact .inr h1
section
variable {P:Program} {w w0:World} {X:List Nat} {A I:List Item} {S:az} {K:Value->World->Prop}
theorem Lu {f:FuncId} {args:List Value} {Post:Value->List Item->az->Prop} (h:Inv w0 X (A++I) S w) (hc:Tri P f args I S Post) :
  Calls P f args.toArray w fun e w'=>∃ v I' S',e=.returned v/\Inv w0 X (A++I') S' w'/\Ext w0.heap.size X S S'/\Post v I' S':=by
 refine (hc w (h.sub (List.sublist_append_right A I)).begin).mono ?_
 rintro e w' ⟨v,I',S',rfl,hI,hE,hP⟩
 refine ⟨v,I',S',rfl,Inv.step h hI hE.2,⟨hE.1,fun b o hb=>?_⟩,hP⟩
 rcases hE.2 b o hb with h1|h1|h1
 ·exact .inl h1
 ·exact .inr (h.new b (by rw [cH]; exact List.mem_append_right _ h1))
 ·exact .inr (.inr (Nat.le_trans h.size h1))
theorem Run.callE {f:FuncId} {fn:Func} {args:List Value} {Post:Value->List Item->az->Prop}
  (hf:P.funcs[f]?=some fn) (hn:(fn.name == "runtime.NumGoroutine" || fn.body.isNone)=false) (h:Inv w0 X (A++I) S w) (hc:Tri P f args I S Post)
  (hk:∀ v I' S' w',Post v I' S'->Ext w0.heap.size X S S'->Inv w0 X (A++I') S' w'->K v w'):Run P (aH (.func (.func f) #[] #[]) args) w K:=by
 refine Run.callP hf hn ((Lu h hc).mono ?_)
 rintro e w' ⟨v,I',S',rfl,hI,hE,hP⟩
 exact hk v I' S' w' hP hE hI
theorem Run.callVE {f:FuncId} {fn:Func} {cap args:List Value} {Post:Value->List Item->az->Prop}
  (hf:P.funcs[f]?=some fn) (hn:(fn.name == "runtime.NumGoroutine" || fn.body.isNone)=false) (h:Inv w0 X (A++I) S w) (hc:Tri P f (args++cap) I S Post)
  (hk:∀ v I' S' w',Post v I' S'->Ext w0.heap.size X S S'->Inv w0 X (A++I') S' w'->K v w'):Run P (aH (fv f cap) args) w K:=by
 unfold Run
 rw [C0 hf hn]
 refine (Lu h hc).mono ?_
 rintro e w' ⟨v,I',S',rfl,hI,hE,hP⟩
 exact hk v I' S' w' hP hE hI
end
theorem Inv.lendExt {w0 w:World} {X:List Nat} {A:List Item} {S:az} {v:Value} {e:TypeId} {k:Nat} {css:List (List Value)} (h:Inv w0 X (A++[bj v e k css]) S w) :
  ∃ S',Ext w0.heap.size X S S'/\RowRd S' v e k css.length css.flatten/\Inv w0 X A S' w:=by
 obtain ⟨hl,ho⟩:=h.openRow
 rcases ho with ⟨rfl,h0⟩|⟨g,cap,cur,rfl,hnc,hcm,hcs,ht,hI⟩
 ·exact ⟨S,Ext.refl _ _ _,⟨hl,.inl ⟨rfl,h0⟩⟩,h.sub (List.sublist_append_left _ _)⟩
 ·obtain ⟨S',h1,h2,h3⟩:=Inv.pub1 (A:=A) hI
  exact ⟨S',h2,⟨hl,.inr ⟨g,cap,cur,rfl,h3,hnc,hcm,hcs,ht⟩⟩,h1⟩

end Go.Proofs.YtemmhhdnlbmicaaGreat
