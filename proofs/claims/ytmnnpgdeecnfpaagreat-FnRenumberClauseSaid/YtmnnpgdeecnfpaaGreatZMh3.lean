/- Bytes, numbers, names and operators in texts: spec.l1Sign and its kin. (printed by gen_byt.py) -/
import Derived.Test.YtmnnpgdeecnfpaaGreatZMh2
import Derived.Test.YtmnnpgdeecnfpaaGreatZMhF
import Derived.Test.YtmnnpgdeecnfpaaGreatZMh0
namespace Go.Proofs.YtmnnpgdeecnfpaaGreat
open Go Go.RowKit
theorem iE {s:Bs} {i:Nat} (h:i<s.length) (c:Nat):sgn s i c=decide (s[i].toNat=c):=by simp [sgn,List.getElem?_eq_getElem h]
theorem C1 {s:Bs} {i:Nat} (h:¬ i<s.length) (c:Nat):sgn s i c=false:=by simp [sgn,List.getElem?_eq_none (Nat.le_of_not_lt h)]
theorem j3 {s:Bs} {i:Nat} (h:i<s.length) (a b:Nat):btw s i a b=(decide (a<=s[i].toNat) && decide (s[i].toNat<=b)):=by simp [btw,List.getElem?_eq_getElem h]
theorem Bd {s:Bs} {i:Nat} (h:¬ i<s.length) (a b:Nat):btw s i a b=false:=by simp [btw,List.getElem?_eq_none (Nat.le_of_not_lt h)]
theorem tR {s:Bs} {i a b:Nat} (h:btw s i a b=true):i<s.length:=by
 rcases Nat.lt_or_ge i s.length with h1|h1
 ·exact h1
 ·rw [Bd (by omega)] at h; cases h
theorem fG {s:Bs} {i c:Nat} (h:sgn s i c=true):i<s.length:=by
 rcases Nat.lt_or_ge i s.length with h1|h1
 ·exact h1
 ·rw [C1 (by omega)] at h; cases h
section
attribute [local irreducible] Run CondV ah ba
theorem cF (s:Bs) (i c:Nat) (S:ax):Pure Tryz.prog Bx [.string (st s),.int .i64 (i:Int),.int .u8 (c:Int)] S (.bool (sgn s i c)):=by
 intro w hI
 refine td ?_
 unfold qW;dsimp only
 refine jT (by omega) ?_
 repeat (first|refine ad ?_|refine ag (by decide) ?_|refine ae ?_|refine aq ?_|refine al ?_)
 refine eA bf ?_
 by_cases h:i<s.length
 ·refine ux (by omega) ?_
  repeat (first|refine ad ?_|refine ag (by decide) ?_|refine ae ?_|refine aq ?_|refine al ?_)
  refine dP bf h ?_
  refine bK ?_
  repeat (first|refine ad ?_|refine ag (by decide) ?_|refine ae ?_|refine aq ?_|refine al ?_)
  refine done hI ?_
  rw [iE h]
  congr 1
  rw [decide_eq_decide]
  omega
 ·refine ed (by omega) ?_
  repeat (first|refine ad ?_|refine ag (by decide) ?_|refine ae ?_|refine aq ?_|refine al ?_)
  exact done hI (by rw [C1 h])
theorem ft (s:Bs) (i:Nat) (S:ax):Pure Tryz.prog zz [.string (st s),.int .i64 (i:Int)] S (.bool (dig s i)):=by
 intro w hI
 refine sD ?_
 unfold oz;dsimp only
 refine jT (by omega) ?_
 repeat (first|refine ad ?_|refine ag (by decide) ?_|refine ae ?_|refine aq ?_|refine al ?_)
 refine eA bf ?_
 by_cases h:i<s.length
 ·refine ux (by omega) ?_
  repeat (first|refine ad ?_|refine ag (by decide) ?_|refine ae ?_|refine aq ?_|refine al ?_)
  refine dP bf h ?_
  rw [dig,j3 h]
  by_cases h2:48<=s[i].toNat
  ·refine jT (by omega) ?_
   repeat (first|refine ad ?_|refine ag (by decide) ?_|refine ae ?_|refine aq ?_|refine al ?_)
   refine dP bf h ?_
   refine fO ?_
   repeat (first|refine ad ?_|refine ag (by decide) ?_|refine ae ?_|refine aq ?_|refine al ?_)
   refine done hI ?_
   rw [decide_eq_true h2,Bool.true_and]
   congr 1
   rw [decide_eq_decide]
   omega
  ·refine qd (by omega) ?_
   repeat (first|refine ad ?_|refine ag (by decide) ?_|refine ae ?_|refine aq ?_|refine al ?_)
   exact done hI (by rw [decide_eq_false h2,Bool.false_and])
 ·refine ed (by omega) ?_
  repeat (first|refine ad ?_|refine ag (by decide) ?_|refine ae ?_|refine aq ?_|refine al ?_)
  exact done hI (by rw [dig,Bd h])
theorem ki (s:Bs) (i:Nat) (S:ax):Pure Tryz.prog zG [.string (st s),.int .i64 (i:Int)] S (.bool (sml s i)):=by
 intro w hI
 refine sy ?_
 unfold og;dsimp only
 refine jT (by omega) ?_
 repeat (first|refine ad ?_|refine ag (by decide) ?_|refine ae ?_|refine aq ?_|refine al ?_)
 refine eA bf ?_
 by_cases h:i<s.length
 ·refine ux (by omega) ?_
  repeat (first|refine ad ?_|refine ag (by decide) ?_|refine ae ?_|refine aq ?_|refine al ?_)
  refine dP bf h ?_
  rw [sml,j3 h]
  by_cases h2:97<=s[i].toNat
  ·refine jT (by omega) ?_
   repeat (first|refine ad ?_|refine ag (by decide) ?_|refine ae ?_|refine aq ?_|refine al ?_)
   refine dP bf h ?_
   refine fO ?_
   repeat (first|refine ad ?_|refine ag (by decide) ?_|refine ae ?_|refine aq ?_|refine al ?_)
   refine done hI ?_
   rw [decide_eq_true h2,Bool.true_and]
   congr 1
   rw [decide_eq_decide]
   omega
  ·refine qd (by omega) ?_
   repeat (first|refine ad ?_|refine ag (by decide) ?_|refine ae ?_|refine aq ?_|refine al ?_)
   exact done hI (by rw [decide_eq_false h2,Bool.false_and])
 ·refine ed (by omega) ?_
  repeat (first|refine ad ?_|refine ag (by decide) ?_|refine ae ?_|refine aq ?_|refine al ?_)
  exact done hI (by rw [sml,Bd h])
end
theorem BQ {s:Bs} {i:Nat} (h:i<s.length):dig s i=true↔48<=s[i].toNat/\s[i].toNat<=57:=by
 rw [dig,j3 h,Bool.and_eq_true,decide_eq_true_eq,decide_eq_true_eq]
theorem Cy {d:Bs} {j:Nat} (h:j<d.length) (m:Nat):u0 (d.drop j) m=u0 (d.drop (j+1)) (m * 10+(d[j].toNat - 48)):=by
 rw [List.drop_eq_getElem_cons h,u0]
section
attribute [local irreducible] Run CondV ah ba
theorem xh (d:Bs) (hd:∀ i,i<d.length->dig d i=true) (h0:0<d.length) (h4:d.length<=4) (hz:¬ (sgn d 0 48=true/\1<d.length)) (S:ax) :
  Pure Tryz.prog Ak [.string (st d)] S (.tuple #[.int .i64 ((u0 d 0:Nat):Int),.bool true]):=by
 intro w hI
 refine sM ?_
 unfold qK;dsimp only
 have hd0:=(BQ h0).1 (hd 0 h0)
 refine ⟨fun t w'=>t=.bool false/\Inv w [] [] S w',?_,?_⟩
 ·refine eA bf ?_
  refine AA (by omega) ?_
  repeat (first|refine ad ?_|refine ag (by decide) ?_|refine ae ?_|refine aq ?_|refine al ?_)
  refine dP (i:=0) bf h0 ?_
  refine dR (by omega) ?_
  repeat (first|refine ad ?_|refine ag (by decide) ?_|refine ae ?_|refine aq ?_|refine al ?_)
  exact ⟨rfl,hI⟩
 intro t4 _ _ _ _ _ _ _ _ w'
 rintro ⟨rfl,hI⟩
 refine ⟨fun t w'=>t=.string (st d)/\Inv w [] [] S w',?_,?_⟩
 ·exact bg (fun hb=>by cases hb) (fun _=>⟨rfl,hI⟩)
 intro t0 _ _ _ w'
 rintro ⟨rfl,hI⟩
 refine ⟨fun t w'=>t=.bool false/\Inv w [] [] S w',?_,?_⟩
 ·refine eA bf ?_
  refine dR (by omega) ?_
  repeat (first|refine ad ?_|refine ag (by decide) ?_|refine ae ?_|refine aq ?_|refine al ?_)
  refine eA bf ?_
  refine jf (by omega) ?_
  repeat (first|refine ad ?_|refine ag (by decide) ?_|refine ae ?_|refine aq ?_|refine al ?_)
  refine dP (i:=0) bf h0 ?_
  by_cases hs:d[0].toNat=48
  ·refine eK (by omega) ?_
   repeat (first|refine ad ?_|refine ag (by decide) ?_|refine ae ?_|refine aq ?_|refine al ?_)
   refine eA bf ?_
   refine jf (by
    have:¬ 1<d.length:=fun h=>hz ⟨by rw [iE h0,hs]; rfl,h⟩
    omega) ?_
   repeat (first|refine ad ?_|refine ag (by decide) ?_|refine ae ?_|refine aq ?_|refine al ?_)
   exact ⟨rfl,hI⟩
  ·refine dR (by omega) ?_
   repeat (first|refine ad ?_|refine ag (by decide) ?_|refine ae ?_|refine aq ?_|refine al ?_)
   exact ⟨rfl,hI⟩
 intro t38 _ _ _ _ _ _ _ _ _ _ _ _ _ _ _ _ _ _ _ _ w'
 rintro ⟨rfl,hI⟩
 refine bg (fun hb=>by cases hb) (fun _=>?_)
 refine ⟨fun i n w'=>∃ j m:Nat,j<=d.length/\i=.int .i64 j/\n=.int .i64 m/\m<10 ^ j/\u0 (d.drop j) m=u0 d 0/\Inv w [] [] S w',fun i _ _=>d.length - (intOf i).toNat,
  ⟨0,0,Nat.zero_le _,rfl,rfl,by simp,rfl,hI⟩,?_⟩
 intro t6 _ _ t5 _ _ _ _ _ _ _ _ _ _ _ _ _ _ _ _ _ _ _ _ _ _ _ _ w'
 rintro ⟨j,m,hj,rfl,rfl,hm,hval,hI⟩
 have hp:10 ^ j<=10 ^ 4:=Nat.pow_le_pow_right (by omega) (by omega)
 refine eA bf ?_
 refine dh ?_
 refine bz (fun hji=>?_) (fun hji=>?_)
 ·have hj':j<d.length:=by omega
  have hdj:=(BQ hj').1 (hd j hj')
  refine ⟨fun t w'=>t=.bool false/\Inv w [] [] S w',?_,?_⟩
  ·refine dP bf hj' ?_
   refine ed (by omega) ?_
   repeat (first|refine ad ?_|refine ag (by decide) ?_|refine ae ?_|refine aq ?_|refine al ?_)
   refine dP bf hj' ?_
   refine jf (by omega) ?_
   repeat (first|refine ad ?_|refine ag (by decide) ?_|refine ae ?_|refine aq ?_|refine al ?_)
   exact ⟨rfl,hI⟩
  intro t54 _ _ _ _ _ _ _ _ _ w'
  rintro ⟨rfl,hI⟩
  refine bg (fun hb=>by cases hb) (fun _=>?_)
  refine wi (by omega) ?_
  refine dP bf hj' ?_
  refine Di (c:=((d[j].toNat - 48:Nat):Int)) ?_ ?_
  ·rw [IntWalk.u8_in _ (by omega)]; omega
  refine lE fa lT (IntWalk.i64_in _ (by omega)) ?_
  refine ct (by omega) ?_
  refine ct (by omega) ?_
  refine ⟨⟨j+1,m * 10+(d[j].toNat - 48),hj',rfl,?_,?_,?_,hI⟩,by simp [intOf]; omega⟩
  ·congr 1
  ·rw [Nat.pow_succ]; omega
  ·rw [<- hval,Cy hj']
 ·have:j=d.length:=by omega
  subst this
  rw [List.drop_length,u0] at hval
  refine ⟨fun t w'=>t=.int .i64 m/\Inv w [] [] S w',bg (fun hb=>by cases hb) (fun _=>⟨rfl,hI⟩),?_⟩
  intro t5 _ _ _ w'
  rintro ⟨rfl,hI⟩
  exact done hI (by rw [hval])
abbrev wF (k n:Int):Value:=.agg #[.int .i64 k,.int .i64 n,.string ⟨#[]⟩,.slice none 0 0]
theorem qX {w:World} {K:Value->World->Prop} {k n:Int} (hk:K (wF k n) w):Run Tryz.prog (cg ac [(0,.int .i64 k),(1,.int .i64 n)]) w K:=by
 refine Run.of (v:=wF k n) (w':=w) ?_ hk
 unfold cg
 rw [Sem.run_bind,run_build w ac _ #[.int .i64 k,.int .i64 n,.string ⟨#[]⟩,.slice none 0 0] (by kernel_rfl),Result.andThen_ok]
 rfl
theorem mv (n:Int) (S:ax):Pure Tryz.prog CY [.int .i64 n] S (wF 1 n):=by
 intro w hI
 refine vk ?_
 unfold tL
 refine bm hI bx fun b w' hI=>?_
 refine qX ?_
 refine aX hI 0 rfl aj rfl rfl (by simp [Value.oneCell']) fun w' hI=>?_
 refine bA hI 0 aj rfl rfl ?_
 exact done hI rfl
theorem jh (n:Int) (S:ax):Pure Tryz.prog CX [.int .i64 n] S (wF 2 n):=by
 intro w hI
 refine vh ?_
 unfold uu
 refine bm hI bx fun b w' hI=>?_
 refine qX ?_
 refine aX hI 0 rfl aj rfl rfl (by simp [Value.oneCell']) fun w' hI=>?_
 refine bA hI 0 aj rfl rfl ?_
 exact done hI rfl
end
theorem Aa (s:Bs) (n e:Nat):mf s (n+1) e=if dig s e=true then mf s n (e+1) else e:=rfl
theorem wU (s:Bs):∀ (n e:Nat),e<=mf s n e/\mf s n e<=e+n
 | 0,e=>by simp [mf]
 | n+1,e=>by
  rw [mf]
  split
  ·have:=wU s n (e+1); omega
  ·omega
theorem py (s:Bs):∀ (n e i:Nat),e<=i->i<mf s n e->dig s i=true
 | 0,e,i,h1,h2=>by simp [mf] at h2; omega
 | n+1,e,i,h1,h2=>by
  rw [mf] at h2
  split at h2
  ·rename_i h
   by_cases he:e=i
   ·subst he; exact h
   ·exact py s n (e+1) i (by omega) h2
  ·omega
theorem xc {s:Bs} {a b i:Nat} (hi:i<(cut s a b).length):∃ h:a+i<s.length,(cut s a b)[i]=s[a+i]/\a+i<b:=by
 have h1:(cut s a b).length=min b s.length - a:=by simp [cut]
 refine ⟨by omega,?_,by omega⟩
 simp [cut]
theorem wH {s:Bs} {a b:Nat} (hb:b<=s.length):(cut s a b).length=b - a:=by simp [cut]; omega
theorem ET {s:Bs} {a b i:Nat} (hi:i<(cut s a b).length):dig (cut s a b) i=dig s (a+i):=by
 obtain ⟨h,e,_⟩:=xc hi
 rw [dig,dig,j3 hi,j3 h,e]
section
attribute [local irreducible] Run CondV ah ba
theorem uh {s:Bs} {i e:Nat} {t:T} (hn:DV s i=some (t,e)) (hi:i<=100000) (S:ax) :
  ∃ n:Int,inI n/\t=.mk 2 n emptyB []/\i<=e/\e<=i+5/\Pure Tryz.prog xb [.string (st s),.int .i64 (i:Int)] S (.tuple #[wF 2 n,.int .i64 (e:Int)]):=by
 unfold DV at hn
 obtain ⟨fr,hfr⟩:∃ fr,fr=if sgn s i 45=true then i+1 else i:=⟨_,rfl⟩
 simp only [<- hfr] at hn
 obtain ⟨en,hen⟩:∃ en,en=mf s 4 fr:=⟨_,rfl⟩
 simp only [<- hen] at hn
 have hle:=wU s 4 fr
 rw [<- hen] at hle
 have hfi:i<=fr/\fr<=i+1:=by rw [hfr]; split <;> omega
 split at hn
 ·cases hn
 rename_i hc
 simp only [not_or] at hc
 obtain ⟨hc1,hc2,hc3,hc4⟩:=hc
 simp only [Option.some.injEq,Prod.mk.injEq] at hn
 obtain ⟨rfl,rfl⟩:=hn
 have hdig:∀ j,j<(cut s fr en).length->dig (cut s fr en) j=true:=fun j hj=>by
  obtain ⟨h1,h2,h3⟩:=xc hj
  rw [ET hj]
  exact py s 4 fr _ (by omega) (by rw [<- hen]; exact h3)
 have hlen0:0<(cut s fr en).length:=by
  cases he:cut s fr en with
  | nil=>exact absurd he hc1
  | cons a l=>simp
 have hen2:fr<en:=by
  obtain ⟨_,_,h3⟩:=xc hlen0
  omega
 have hens:en<=s.length:=by
  have:=py s 4 fr (en - 1) (by omega) (by rw [<- hen]; omega)
  have:=tR this
  omega
 refine ⟨_,?_,rfl,by omega,by omega,?_⟩
 ·unfold inI; split <;> omega
 intro w hI
 refine qb ?_
 unfold mr;dsimp only
 refine bm hI bx fun b4 w' hI=>?_
 refine ⟨fun t w'=>t=.int .i64 (fr:Int)/\Inv w [] [.blk b4 (.cells #[.int .i64 0,.int .i64 0,.string ⟨#[]⟩,.slice none 0 0] ac)] S w',?_,?_⟩
 ·refine Run.callPure cZ c3 hI (cF s i 45 S) fun w' hI=>?_
  refine bg (fun hb=>?_) (fun hb=>?_)
  ·refine ct (by omega) ?_
   rw [if_pos hb] at hfr
   exact ⟨by rw [hfr]; congr 1,hI⟩
  ·rw [if_neg (by rw [hb]; decide)] at hfr
   exact ⟨by rw [hfr],hI⟩
 intro t6 _ _ _ _ _ w'
 rintro ⟨rfl,hI⟩
 refine ⟨fun t w'=>∃ j:Nat,t=.int .i64 (j:Int)/\fr<=j/\j<=fr+4/\mf s (fr+4 - j) j=en/\Inv w [] [.blk b4 (.cells #[.int .i64 0,.int .i64 0,.string ⟨#[]⟩,.slice none 0 0] ac)] S w',fun t _=>fr+4 - (intOf t).toNat,
  ⟨fr,rfl,Nat.le_refl _,by omega,by rw [Nat.add_sub_cancel_left]; exact hen.symm,hI⟩,?_⟩
 intro t6 _ _ _ _ _ _ _ _ _ _ _ w'
 rintro ⟨j,rfl,hj1,hj2,hj3,hI⟩
 refine ⟨fun t w'=>t=.bool (dig s j && decide (j<fr+4))/\Inv w [] [.blk b4 (.cells #[.int .i64 0,.int .i64 0,.string ⟨#[]⟩,.slice none 0 0] ac)] S w',?_,?_⟩
 ·refine Run.callPure gU gV hI (ft s j S) fun w' hI=>?_
  cases hdj:dig s j
  ·repeat (first|refine ad ?_|refine ag (by decide) ?_|refine ae ?_|refine aq ?_|refine al ?_)
   exact ⟨rfl,hI⟩
  ·repeat (first|refine ad ?_|refine ag (by decide) ?_|refine ae ?_|refine aq ?_|refine al ?_)
   refine ct (by omega) ?_
   refine dh ?_
   repeat (first|refine ad ?_|refine ag (by decide) ?_|refine ae ?_|refine aq ?_|refine al ?_)
   refine ⟨?_,hI⟩
   rw [Bool.true_and]
   congr 1
   rw [decide_eq_decide]
   omega
 intro t25 _ _ _ _ _ _ _ _ w'
 rintro ⟨rfl,hI⟩
 refine bg (fun hb=>?_) (fun hb=>?_)
 ·rw [Bool.and_eq_true,decide_eq_true_eq] at hb
  refine ct (by omega) ?_
  refine ⟨⟨j+1,rfl,by omega,by omega,?_,hI⟩,by simp [intOf]; omega⟩
  rw [<- hj3,show fr+4 - j=(fr+4 - (j+1))+1 by omega,Aa,if_pos hb.1]
 ·have hje:j=en:=by
   rw [<- hj3]
   by_cases h4:j=fr+4
   ·rw [h4,Nat.sub_self]; rfl
   ·rw [show fr+4 - j=(fr+4 - (j+1))+1 by omega,Aa,if_neg]
    intro hd
    rw [hd,Bool.true_and,decide_eq_false_iff_not] at hb
    omega
  subst hje
  refine sW bf (by omega) hens ?_
  refine Run.callPure yG zS hI (xh _ hdig hlen0 (by rw [wH hens]; omega) hc2 S) fun w' hI=>?_
  obtain ⟨n,hn⟩:∃ n,n=u0 (cut s fr j) 0:=⟨_,rfl⟩
  rw [<- hn]
  refine bj (v:=.int .i64 (n:Int)) rfl ?_
  refine bj (v:=.bool true) rfl ?_
  simp only [<- hn] at hc3 hc4 ⊢
  refine ⟨fun t w'=>t=.bool false/\Inv w [] [.blk b4 (.cells #[.int .i64 0,.int .i64 0,.string ⟨#[]⟩,.slice none 0 0] ac)] S w',?_,?_⟩
  ·refine dT ?_
   repeat (first|refine ad ?_|refine ag (by decide) ?_|refine ae ?_|refine aq ?_|refine al ?_)
   by_cases hfi':i<fr
   ·refine AA (by omega) ?_
    repeat (first|refine ad ?_|refine ag (by decide) ?_|refine ae ?_|refine aq ?_|refine al ?_)
    refine bK ?_
    have:¬ n=0:=fun h=>hc3 ⟨hfi',h⟩
    rw [decide_eq_false (by omega)]
    repeat (first|refine ad ?_|refine ag (by decide) ?_|refine ae ?_|refine aq ?_|refine al ?_)
    refine jf (by omega) ?_
    repeat (first|refine ad ?_|refine ag (by decide) ?_|refine ae ?_|refine aq ?_|refine al ?_)
    exact ⟨rfl,hI⟩
   ·refine jf (by omega) ?_
    repeat (first|refine ad ?_|refine ag (by decide) ?_|refine ae ?_|refine aq ?_|refine al ?_)
    refine jf (by omega) ?_
    repeat (first|refine ad ?_|refine ag (by decide) ?_|refine ae ?_|refine aq ?_|refine al ?_)
    exact ⟨rfl,hI⟩
  intro t50 _ _ _ _ _ _ _ _ _ _ _ _ _ _ w'
  rintro ⟨rfl,hI⟩
  refine bg (fun hb=>by cases hb) (fun _=>?_)
  refine ⟨fun t w'=>t=.int .i64 (if i<fr then -(n:Int) else n)/\Inv w [] [.blk b4 (.cells #[.int .i64 0,.int .i64 0,.string ⟨#[]⟩,.slice none 0 0] ac)] S w',?_,?_⟩
  ·refine eN ?_
   refine bz (fun hb=>?_) (fun hb=>?_)
   ·refine E0 (by omega) ?_
    exact ⟨by rw [if_pos (by omega)],hI⟩
   ·exact ⟨by rw [if_neg (by omega)],hI⟩
  intro t8 _ _ _ _ _ w'
  rintro ⟨rfl,hI⟩
  refine Run.callPure mL mS hI (jh _ S) fun w' hI=>?_
  refine aX hI 0 rfl aj rfl rfl (by simp [Value.oneCell']) fun w' hI=>?_
  refine bA hI 0 aj rfl rfl ?_
  exact done hI rfl
end
theorem RdSl.some1 {α:Type} {S:ax} {k:Nat} {R:List Value->α->Prop} {v:Value} {xs:List α} (h:RdSl S k R v xs) (h0:0<xs.length):∃ b o cap,v=.slice (some ⟨b,o,none⟩) xs.length cap:=by
 obtain ⟨b,o,cap,c,E,fz,e,_,_⟩:=h.at_ h0
 exact ⟨b,o,cap,e⟩
theorem yw (s:Bs) (n e:Nat):sG s (n+1) e=if sml s e=true then sG s n (e+1) else e:=rfl
def BP (o:Option (Bs × Nat)):Value:=match o with
 | none=>.tuple #[.string ⟨#[]⟩,.int .i64 (-1)]
 | some (n,e)=>.tuple #[.string (st n),.int .i64 (e:Int)]
theorem Bn (s:Bs) (i:Nat) {j:Nat} (h:j<signs.length) (b:Bs):fS s i (signs.drop j) b=fS s i (signs.drop (j+1)) (if decide (i+signs[j].size<=s.length)=true/\cut s i (i+signs[j].size)=bs signs[j]/\b.length<signs[j].size then bs signs[j] else b):=by
 rw [List.drop_eq_getElem_cons h,fS]
theorem yv:∀ x∈signs,x.size<=3:=by decide
section
attribute [local irreducible] Run CondV ah ba
theorem ou {s:Bs} {i:Nat} (hi:i<s.length) (hs:s.length<=100000) (S:ax):Pure Tryz.prog Bl [.string (st s),.int .i64 (i:Int)] S (BP (oA s i)):=by
 intro w hI
 refine uH ?_
 unfold rt
 obtain ⟨E,hE⟩:∃ E,E=sG s (s.length - i) i:=⟨_,rfl⟩
 have hnm:oA s i=if i+6<E then none else if i<E then some (cut s i E,E) else if fS s i signs []=[] then none else some (fS s i signs [],i+(fS s i signs []).length):=by
  rw [oA,<- hE]
 refine ⟨fun t w'=>∃ e:Nat,t=.int .i64 (e:Int)/\i<=e/\e<=s.length/\sG s (s.length - e) e=E/\Inv w [] [] S w',fun t _=>s.length - (intOf t).toNat,⟨i,rfl,Nat.le_refl _,by omega,hE.symm,hI⟩,?_⟩
 intro t6 _ _ _ _ _ w'
 rintro ⟨e,rfl,he1,he2,he3,hI⟩
 refine Run.callPure ot nZ hI (ki s e S) fun w' hI=>?_
 refine bg (fun hb=>?_) (fun hb=>?_)
 ·have hlt:=tR hb
  refine ct (by omega) ?_
  refine ⟨⟨e+1,rfl,by omega,by omega,?_,hI⟩,by simp [intOf]; omega⟩
  rw [<- he3,show s.length - e=(s.length - (e+1))+1 by omega,yw,if_pos hb]
 have heE:e=E:=by
  rw [<- he3]
  by_cases h:e=s.length
  ·rw [h,Nat.sub_self,sG]
  ·rw [show s.length - e=(s.length - (e+1))+1 by omega,yw,if_neg (by rw [hb]; decide)]
 subst heE
 refine ct (by omega) ?_
 refine eN ?_
 refine bz (fun hb=>done hI (by rw [hnm,if_pos (by omega)]; rfl)) (fun hb=>?_)
 rw [if_neg (by omega)] at hnm
 refine eN ?_
 refine bz (fun hb=>?_) (fun hb=>?_)
 ·refine sW bf (by omega) (by omega) ?_
  exact done hI (by rw [hnm,if_pos (by omega)]; rfl)
 rw [if_neg (by omega)] at hnm
 refine Run.call0 nK pl hI (mz S) fun v I' S1 w'=>?_
 rintro ⟨rfl,hle,hr⟩ _ hI
 obtain ⟨b,o,cap,rfl⟩:=RdSl.some1 hr (by decide)
 refine ⟨fun t u w'=>∃ (j:Nat) (best:Bs),j<=signs.length/\t=.int .i64 (j:Int)/\u=.string (st best)/\best.length<=3/\fS s i (signs.drop j) best=fS s i signs []/\Inv w [] [] S1 w',fun t _ _=>signs.length - (intOf t).toNat,
  ⟨0,[],Nat.zero_le _,rfl,rfl,by simp,rfl,hI.nil⟩,?_⟩
 intro t9 _ _ t7 _ _ _ _ t65 t64 t63 t62 t61 t60 t59 t58 t57 t56 t55 t54 t53 t52 t51 t50 t49 t48 t47 t46 t45 t44 t43 t42 t41 _ _ _ _ _ _ _ _ _ _ w'
 rintro ⟨j,best,hj0,rfl,rfl,hbl,hbest,hI⟩
 have h15:signs.length=15:=rfl
 refine bo hr cJ ?_
 refine dh ?_
 refine bz (fun hji=>?_) (fun hji=>?_)
 ·have hj:j<signs.length:=by omega
  obtain ⟨x,hx⟩:∃ x,x=signs[j]:=⟨_,rfl⟩
  have hx3:x.size<=3:=by rw [hx]; exact yv _ (List.getElem_mem hj)
  obtain ⟨b',o',cap',c,E',fz,hsl,hS,hR⟩:=hr.at_ hj
  cases hsl
  have hcx:c[o+j * 1]?=some (.string x):=by rw [hx]; exact bC hR 0 _ rfl
  rw [Bn s i hj,<- hx] at hbest
  refine ⟨fun u w'=>∃ best',u=.string (st best')/\best'.length<=3/\fS s i (signs.drop (j+1)) best'=fS s i signs []/\Inv w [] [] S1 w',?_,?_⟩
  ·refine bv cJ hj ?_
   refine d4 bq ((hI.cellS hS).trans hcx) ?_
   refine iM bf ?_
   by_cases hlen:i+x.size<=s.length
   ·cases hq:decide (st (cut s i (i+x.size))=x)
    ·skip
     refine ⟨fun D c8 c7 cP cS cU cO cN cT cQ cR cV cW cA cq cB cC cE cD cz dL dv dt dj du dJ w_=>(D 0=true->dJ=.int .i64 (i:Int))/\(D 1=true->du=.int .i64 (x.size:Int))/\(D 2=true->dj=.int .i64 ((i+x.size:Nat):Int))/\(D 3=true->dt=.string (st s))/\(D 4=true->dv=.int .i64 (s.length:Int))/\(D 5=true->dL=.bool true)/\(D 6=true->cz=.bool true)/\(D 7=true->cD=.string (st s))/\(D 8=true->cE=.int .i64 (i:Int))/\(D 9=true->cC=.int .i64 (i:Int))/\(D 10=true->cB=.int .i64 (x.size:Int))/\(D 11=true->cq=.int .i64 ((i+x.size:Nat):Int))/\(D 12=true->cA=.string (st (cut s i (i+x.size))))/\(D 13=true->cW=.slice (some ⟨b,o,none⟩) signs.length cap)/\(D 14=true->cV=.int .i64 (j:Int))/\(D 15=true->cR=.pointer (some ⟨b,o+j * 1,none⟩))/\(D 16=true->cQ=.string x)/\(D 17=true->cT=.bool false)/\(D 18=true->cN=.bool false)/\(D 19=true->cO=.bool false)/\(D 20=true->cU=undef)/\(D 21=true->cS=undef)/\(D 22=true->cP=undef)/\(D 23=true->c7=undef)/\(D 24=true->c8=.bool false)/\Inv w [] [] S1 w_,⟨af,af,af,af,af,af,af,af,af,af,af,af,af,af,af,af,af,af,af,af,af,af,af,af,af,hI.draw⟩,⟨?_,?_,?_,?_,?_,?_,?_,?_,?_,?_,?_,?_,?_,?_,?_,?_,?_,?_,?_,?_,?_,?_,?_,?_,?_,trivial⟩,?_⟩
     ·intro D a6  c8 c7 cP cS cU cO cN cT cQ cR cV cW cA cq cB cC cE cD cz dL dv dt dj du dJ w_
      rintro ⟨aF,aC,aB,aE,aD,aG,az,aK,aQ,aU,ao,ar,aw,aI,aJ,aM,aO,aN,aP,aT,a5,aZ,aY,a4,a7,hI⟩
      exact ⟨fun _=>rfl,aC,aB,aE,aD,aG,az,aK,aQ,aU,ao,ar,aw,aI,aJ,aM,aO,aN,aP,aT,a5,aZ,aY,a4,a7,hI⟩
     ·intro D a6  c8 c7 cP cS cU cO cN cT cQ cR cV cW cA cq cB cC cE cD cz dL dv dt dj du dJ w_
      rintro ⟨aF,aC,aB,aE,aD,aG,az,aK,aQ,aU,ao,ar,aw,aI,aJ,aM,aO,aN,aP,aT,a5,aZ,aY,a4,a7,hI⟩
      exact ⟨aF,fun _=>rfl,aB,aE,aD,aG,az,aK,aQ,aU,ao,ar,aw,aI,aJ,aM,aO,aN,aP,aT,a5,aZ,aY,a4,a7,hI⟩
     ·intro D a6 dc gl c8 c7 cP cS cU cO cN cT cQ cR cV cW cA cq cB cC cE cD cz dL dv dt dj du dJ w_
      rintro ⟨aF,aC,aB,aE,aD,aG,az,aK,aQ,aU,ao,ar,aw,aI,aJ,aM,aO,aN,aP,aT,a5,aZ,aY,a4,a7,hI⟩
      obtain rfl:=aF dc
      obtain rfl:=aC gl
      refine ct (by omega) ?_
      exact ⟨aF,aC,fun _=>rfl,aE,aD,aG,az,aK,aQ,aU,ao,ar,aw,aI,aJ,aM,aO,aN,aP,aT,a5,aZ,aY,a4,a7,hI⟩
     ·intro D a6  c8 c7 cP cS cU cO cN cT cQ cR cV cW cA cq cB cC cE cD cz dL dv dt dj du dJ w_
      rintro ⟨aF,aC,aB,aE,aD,aG,az,aK,aQ,aU,ao,ar,aw,aI,aJ,aM,aO,aN,aP,aT,a5,aZ,aY,a4,a7,hI⟩
      exact ⟨aF,aC,aB,fun _=>rfl,aD,aG,az,aK,aQ,aU,ao,ar,aw,aI,aJ,aM,aO,aN,aP,aT,a5,aZ,aY,a4,a7,hI⟩
     ·intro D a6 ef c8 c7 cP cS cU cO cN cT cQ cR cV cW cA cq cB cC cE cD cz dL dv dt dj du dJ w_
      rintro ⟨aF,aC,aB,aE,aD,aG,az,aK,aQ,aU,ao,ar,aw,aI,aJ,aM,aO,aN,aP,aT,a5,aZ,aY,a4,a7,hI⟩
      obtain rfl:=aE ef
      refine eA bf ?_
      exact ⟨aF,aC,aB,aE,fun _=>rfl,aG,az,aK,aQ,aU,ao,ar,aw,aI,aJ,aM,aO,aN,aP,aT,a5,aZ,aY,a4,a7,hI⟩
     ·intro D a6 dy ev c8 c7 cP cS cU cO cN cT cQ cR cV cW cA cq cB cC cE cD cz dL dv dt dj du dJ w_
      rintro ⟨aF,aC,aB,aE,aD,aG,az,aK,aQ,aU,ao,ar,aw,aI,aJ,aM,aO,aN,aP,aT,a5,aZ,aY,a4,a7,hI⟩
      obtain rfl:=aB dy
      obtain rfl:=aD ev
      refine xt (by omega) ?_
      exact ⟨aF,aC,aB,aE,aD,fun _=>rfl,az,aK,aQ,aU,ao,ar,aw,aI,aJ,aM,aO,aN,aP,aT,a5,aZ,aY,a4,a7,hI⟩
     ·intro D a6 eq c8 c7 cP cS cU cO cN cT cQ cR cV cW cA cq cB cC cE cD cz dL dv dt dj du dJ w_
      rintro ⟨aF,aC,aB,aE,aD,aG,az,aK,aQ,aU,ao,ar,aw,aI,aJ,aM,aO,aN,aP,aT,a5,aZ,aY,a4,a7,hI⟩
      obtain rfl:=aG eq
      exact ⟨aF,aC,aB,aE,aD,aG,fun _=>rfl,aK,aQ,aU,ao,ar,aw,aI,aJ,aM,aO,aN,aP,aT,a5,aZ,aY,a4,a7,hI⟩
     ·intro D a6 cw c8 c7 cP cS cU cO cN cT cQ cR cV cW cA cq cB cC cE cD cz dL dv dt dj du dJ w_
      rintro ⟨aF,aC,aB,aE,aD,aG,az,aK,aQ,aU,ao,ar,aw,aI,aJ,aM,aO,aN,aP,aT,a5,aZ,aY,a4,a7,hI⟩
      obtain rfl:=az cw
      refine ad ?_
      exact ⟨aF,aC,aB,aE,aD,aG,az,fun _=>rfl,aQ,aU,ao,ar,aw,aI,aJ,aM,aO,aN,aP,aT,a5,aZ,aY,a4,a7,hI⟩
     ·intro D a6 cw c8 c7 cP cS cU cO cN cT cQ cR cV cW cA cq cB cC cE cD cz dL dv dt dj du dJ w_
      rintro ⟨aF,aC,aB,aE,aD,aG,az,aK,aQ,aU,ao,ar,aw,aI,aJ,aM,aO,aN,aP,aT,a5,aZ,aY,a4,a7,hI⟩
      obtain rfl:=az cw
      refine ad ?_
      exact ⟨aF,aC,aB,aE,aD,aG,az,aK,fun _=>rfl,aU,ao,ar,aw,aI,aJ,aM,aO,aN,aP,aT,a5,aZ,aY,a4,a7,hI⟩
     ·intro D a6 cw c8 c7 cP cS cU cO cN cT cQ cR cV cW cA cq cB cC cE cD cz dL dv dt dj du dJ w_
      rintro ⟨aF,aC,aB,aE,aD,aG,az,aK,aQ,aU,ao,ar,aw,aI,aJ,aM,aO,aN,aP,aT,a5,aZ,aY,a4,a7,hI⟩
      obtain rfl:=az cw
      refine ad ?_
      exact ⟨aF,aC,aB,aE,aD,aG,az,aK,aQ,fun _=>rfl,ao,ar,aw,aI,aJ,aM,aO,aN,aP,aT,a5,aZ,aY,a4,a7,hI⟩
     ·intro D a6 cw c8 c7 cP cS cU cO cN cT cQ cR cV cW cA cq cB cC cE cD cz dL dv dt dj du dJ w_
      rintro ⟨aF,aC,aB,aE,aD,aG,az,aK,aQ,aU,ao,ar,aw,aI,aJ,aM,aO,aN,aP,aT,a5,aZ,aY,a4,a7,hI⟩
      obtain rfl:=az cw
      refine ad ?_
      exact ⟨aF,aC,aB,aE,aD,aG,az,aK,aQ,aU,fun _=>rfl,ar,aw,aI,aJ,aM,aO,aN,aP,aT,a5,aZ,aY,a4,a7,hI⟩
     ·intro D a6 vS fi jm c8 c7 cP cS cU cO cN cT cQ cR cV cW cA cq cB cC cE cD cz dL dv dt dj du dJ w_
      rintro ⟨aF,aC,aB,aE,aD,aG,az,aK,aQ,aU,ao,ar,aw,aI,aJ,aM,aO,aN,aP,aT,a5,aZ,aY,a4,a7,hI⟩
      obtain rfl:=aU vS
      obtain rfl:=ao fi
      obtain rfl:=az jm
      refine ad ?_; refine ct (by omega) ?_
      exact ⟨aF,aC,aB,aE,aD,aG,az,aK,aQ,aU,ao,fun _=>rfl,aw,aI,aJ,aM,aO,aN,aP,aT,a5,aZ,aY,a4,a7,hI⟩
     ·intro D a6 d6 fh y6 As c8 c7 cP cS cU cO cN cT cQ cR cV cW cA cq cB cC cE cD cz dL dv dt dj du dJ w_
      rintro ⟨aF,aC,aB,aE,aD,aG,az,aK,aQ,aU,ao,ar,aw,aI,aJ,aM,aO,aN,aP,aT,a5,aZ,aY,a4,a7,hI⟩
      obtain rfl:=aK d6
      obtain rfl:=aQ fh
      obtain rfl:=ar y6
      obtain rfl:=az As
      refine ad ?_; refine sW bf (by omega) (by omega) ?_
      exact ⟨aF,aC,aB,aE,aD,aG,az,aK,aQ,aU,ao,ar,fun _=>rfl,aI,aJ,aM,aO,aN,aP,aT,a5,aZ,aY,a4,a7,hI⟩
     ·intro D a6 cw c8 c7 cP cS cU cO cN cT cQ cR cV cW cA cq cB cC cE cD cz dL dv dt dj du dJ w_
      rintro ⟨aF,aC,aB,aE,aD,aG,az,aK,aQ,aU,ao,ar,aw,aI,aJ,aM,aO,aN,aP,aT,a5,aZ,aY,a4,a7,hI⟩
      obtain rfl:=az cw
      refine ad ?_
      exact ⟨aF,aC,aB,aE,aD,aG,az,aK,aQ,aU,ao,ar,aw,fun _=>rfl,aJ,aM,aO,aN,aP,aT,a5,aZ,aY,a4,a7,hI⟩
     ·intro D a6 cw c8 c7 cP cS cU cO cN cT cQ cR cV cW cA cq cB cC cE cD cz dL dv dt dj du dJ w_
      rintro ⟨aF,aC,aB,aE,aD,aG,az,aK,aQ,aU,ao,ar,aw,aI,aJ,aM,aO,aN,aP,aT,a5,aZ,aY,a4,a7,hI⟩
      obtain rfl:=az cw
      refine ad ?_
      exact ⟨aF,aC,aB,aE,aD,aG,az,aK,aQ,aU,ao,ar,aw,aI,fun _=>rfl,aM,aO,aN,aP,aT,a5,aZ,aY,a4,a7,hI⟩
     ·intro D a6 i7 zP jm c8 c7 cP cS cU cO cN cT cQ cR cV cW cA cq cB cC cE cD cz dL dv dt dj du dJ w_
      rintro ⟨aF,aC,aB,aE,aD,aG,az,aK,aQ,aU,ao,ar,aw,aI,aJ,aM,aO,aN,aP,aT,a5,aZ,aY,a4,a7,hI⟩
      obtain rfl:=aI i7
      obtain rfl:=aJ zP
      obtain rfl:=az jm
      refine ad ?_; refine bv cJ hj ?_
      exact ⟨aF,aC,aB,aE,aD,aG,az,aK,aQ,aU,ao,ar,aw,aI,aJ,fun _=>rfl,aO,aN,aP,aT,a5,aZ,aY,a4,a7,hI⟩
     ·intro D a6 mJ eO c8 c7 cP cS cU cO cN cT cQ cR cV cW cA cq cB cC cE cD cz dL dv dt dj du dJ w_
      rintro ⟨aF,aC,aB,aE,aD,aG,az,aK,aQ,aU,ao,ar,aw,aI,aJ,aM,aO,aN,aP,aT,a5,aZ,aY,a4,a7,hI⟩
      obtain rfl:=aM mJ
      obtain rfl:=az eO
      refine ad ?_; refine d4 bq ((hI.cellS hS).trans hcx) ?_
      exact ⟨aF,aC,aB,aE,aD,aG,az,aK,aQ,aU,ao,ar,aw,aI,aJ,aM,fun _=>rfl,aN,aP,aT,a5,aZ,aY,a4,a7,hI⟩
     ·intro D a6 kF lU jm c8 c7 cP cS cU cO cN cT cQ cR cV cW cA cq cB cC cE cD cz dL dv dt dj du dJ w_
      rintro ⟨aF,aC,aB,aE,aD,aG,az,aK,aQ,aU,ao,ar,aw,aI,aJ,aM,aO,aN,aP,aT,a5,aZ,aY,a4,a7,hI⟩
      obtain rfl:=aw kF
      obtain rfl:=aO lU
      obtain rfl:=az jm
      refine ad ?_; refine cr ?_; rw [hq]
      exact ⟨aF,aC,aB,aE,aD,aG,az,aK,aQ,aU,ao,ar,aw,aI,aJ,aM,aO,fun _=>rfl,aP,aT,a5,aZ,aY,a4,a7,hI⟩
     ·intro D a6 cw rB c8 c7 cP cS cU cO cN cT cQ cR cV cW cA cq cB cC cE cD cz dL dv dt dj du dJ w_
      rintro ⟨aF,aC,aB,aE,aD,aG,az,aK,aQ,aU,ao,ar,aw,aI,aJ,aM,aO,aN,aP,aT,a5,aZ,aY,a4,a7,hI⟩
      obtain rfl:=az cw
      obtain rfl:=aN rB
      refine aq ?_
      exact ⟨aF,aC,aB,aE,aD,aG,az,aK,aQ,aU,ao,ar,aw,aI,aJ,aM,aO,aN,fun _=>rfl,aT,a5,aZ,aY,a4,a7,hI⟩
     ·intro D a6 pr eO c8 c7 cP cS cU cO cN cT cQ cR cV cW cA cq cB cC cE cD cz dL dv dt dj du dJ w_
      rintro ⟨aF,aC,aB,aE,aD,aG,az,aK,aQ,aU,ao,ar,aw,aI,aJ,aM,aO,aN,aP,aT,a5,aZ,aY,a4,a7,hI⟩
      obtain rfl:=aP pr
      exact ⟨aF,aC,aB,aE,aD,aG,az,aK,aQ,aU,ao,ar,aw,aI,aJ,aM,aO,aN,aP,fun _=>rfl,a5,aZ,aY,a4,a7,hI⟩
     ·intro D a6 fF c8 c7 cP cS cU cO cN cT cQ cR cV cW cA cq cB cC cE cD cz dL dv dt dj du dJ w_
      rintro ⟨aF,aC,aB,aE,aD,aG,az,aK,aQ,aU,ao,ar,aw,aI,aJ,aM,aO,aN,aP,aT,a5,aZ,aY,a4,a7,hI⟩
      obtain rfl:=aT fF
      refine ag (c:=false) (b:=true) (by decide) ?_
      exact ⟨aF,aC,aB,aE,aD,aG,az,aK,aQ,aU,ao,ar,aw,aI,aJ,aM,aO,aN,aP,aT,fun _=>rfl,aZ,aY,a4,a7,hI⟩
     ·intro D a6 fF c8 c7 cP cS cU cO cN cT cQ cR cV cW cA cq cB cC cE cD cz dL dv dt dj du dJ w_
      rintro ⟨aF,aC,aB,aE,aD,aG,az,aK,aQ,aU,ao,ar,aw,aI,aJ,aM,aO,aN,aP,aT,a5,aZ,aY,a4,a7,hI⟩
      obtain rfl:=aT fF
      refine ag (c:=false) (b:=true) (by decide) ?_
      exact ⟨aF,aC,aB,aE,aD,aG,az,aK,aQ,aU,ao,ar,aw,aI,aJ,aM,aO,aN,aP,aT,a5,fun _=>rfl,aY,a4,a7,hI⟩
     ·intro D a6 tX zo c8 c7 cP cS cU cO cN cT cQ cR cV cW cA cq cB cC cE cD cz dL dv dt dj du dJ w_
      rintro ⟨aF,aC,aB,aE,aD,aG,az,aK,aQ,aU,ao,ar,aw,aI,aJ,aM,aO,aN,aP,aT,a5,aZ,aY,a4,a7,hI⟩
      obtain rfl:=aZ tX
      obtain rfl:=aT zo
      refine ag (c:=false) (b:=true) (by decide) ?_
      exact ⟨aF,aC,aB,aE,aD,aG,az,aK,aQ,aU,ao,ar,aw,aI,aJ,aM,aO,aN,aP,aT,a5,aZ,fun _=>rfl,a4,a7,hI⟩
     ·intro D a6 ta z1 yp c8 c7 cP cS cU cO cN cT cQ cR cV cW cA cq cB cC cE cD cz dL dv dt dj du dJ w_
      rintro ⟨aF,aC,aB,aE,aD,aG,az,aK,aQ,aU,ao,ar,aw,aI,aJ,aM,aO,aN,aP,aT,a5,aZ,aY,a4,a7,hI⟩
      obtain rfl:=a5 ta
      obtain rfl:=aY z1
      obtain rfl:=aT yp
      refine ag (c:=false) (b:=true) (by decide) ?_
      exact ⟨aF,aC,aB,aE,aD,aG,az,aK,aQ,aU,ao,ar,aw,aI,aJ,aM,aO,aN,aP,aT,a5,aZ,aY,fun _=>rfl,a7,hI⟩
     ·intro D a6 fF yN c8 c7 cP cS cU cO cN cT cQ cR cV cW cA cq cB cC cE cD cz dL dv dt dj du dJ w_
      rintro ⟨aF,aC,aB,aE,aD,aG,az,aK,aQ,aU,ao,ar,aw,aI,aJ,aM,aO,aN,aP,aT,a5,aZ,aY,a4,a7,hI⟩
      obtain rfl:=aT fF
      obtain rfl:=a4 yN
      refine al ?_
      exact ⟨aF,aC,aB,aE,aD,aG,az,aK,aQ,aU,ao,ar,aw,aI,aJ,aM,aO,aN,aP,aT,a5,aZ,aY,a4,fun _=>rfl,hI⟩
     intro D Al Au AW AE Bo xU sV ui tv uC qB si ky gw fK kA iV ii gM gT hO iR im iT iS c8 c7 cP cS cU cO cN cT cQ cR cV cW cA cq cB cC cE cD cz dL dv dt dj du dJ w_
     rintro ⟨aF,aC,aB,aE,aD,aG,az,aK,aQ,aU,ao,ar,aw,aI,aJ,aM,aO,aN,aP,aT,a5,aZ,aY,a4,a7,hI⟩
     obtain rfl:=a7 Al
     obtain rfl:=a4 Au
     obtain rfl:=aY AW
     obtain rfl:=aZ AE
     obtain rfl:=a5 Bo
     obtain rfl:=aT xU
     obtain rfl:=aP sV
     obtain rfl:=aN ui
     obtain rfl:=aO tv
     obtain rfl:=aM uC
     obtain rfl:=aJ qB
     obtain rfl:=aI si
     obtain rfl:=aw ky
     obtain rfl:=ar gw
     obtain rfl:=ao fK
     obtain rfl:=aU kA
     obtain rfl:=aQ iV
     obtain rfl:=aK ii
     obtain rfl:=az gM
     obtain rfl:=aG gT
     obtain rfl:=aD hO
     obtain rfl:=aE iR
     obtain rfl:=aB im
     obtain rfl:=aC iT
     obtain rfl:=aF iS
     clear aF aC aB aE aD aG az aK aQ aU ao ar aw aI aJ aM aO aN aP aT a5 aZ aY a4 a7
     refine bg (fun hb=>by cases hb) (fun _=>?_)
     refine ⟨best,rfl,hbl,?_,hI⟩
     rw [if_neg] at hbest
     ·exact hbest
     ·rintro ⟨_,h2,_⟩
      rw [decide_eq_false_iff_not] at hq
      exact hq (by rw [h2])
    ·rw [decide_eq_true_eq] at hq
     have hq':=hq
     have hq:decide (st (cut s i (i+x.size))=x)=true:=decide_eq_true hq'
     skip
     refine ⟨fun D c8 c7 cP cS cU cO cN cT cQ cR cV cW cA cq cB cC cE cD cz dL dv dt dj du dJ w_=>(D 0=true->dJ=.int .i64 (i:Int))/\(D 1=true->du=.int .i64 (x.size:Int))/\(D 2=true->dj=.int .i64 ((i+x.size:Nat):Int))/\(D 3=true->dt=.string (st s))/\(D 4=true->dv=.int .i64 (s.length:Int))/\(D 5=true->dL=.bool true)/\(D 6=true->cz=.bool true)/\(D 7=true->cD=.string (st s))/\(D 8=true->cE=.int .i64 (i:Int))/\(D 9=true->cC=.int .i64 (i:Int))/\(D 10=true->cB=.int .i64 (x.size:Int))/\(D 11=true->cq=.int .i64 ((i+x.size:Nat):Int))/\(D 12=true->cA=.string (st (cut s i (i+x.size))))/\(D 13=true->cW=.slice (some ⟨b,o,none⟩) signs.length cap)/\(D 14=true->cV=.int .i64 (j:Int))/\(D 15=true->cR=.pointer (some ⟨b,o+j * 1,none⟩))/\(D 16=true->cQ=.string x)/\(D 17=true->cT=.bool true)/\(D 18=true->cN=.bool true)/\(D 19=true->cO=.bool true)/\(D 20=true->cU=.int .i64 (x.size:Int))/\(D 21=true->cS=.string (st best))/\(D 22=true->cP=.int .i64 (best.length:Int))/\(D 23=true->c7=.bool (decide ((best.length:Int)<(x.size:Int))))/\(D 24=true->c8=.bool (decide ((best.length:Int)<(x.size:Int))))/\Inv w [] [] S1 w_,⟨af,af,af,af,af,af,af,af,af,af,af,af,af,af,af,af,af,af,af,af,af,af,af,af,af,hI.draw⟩,⟨?_,?_,?_,?_,?_,?_,?_,?_,?_,?_,?_,?_,?_,?_,?_,?_,?_,?_,?_,?_,?_,?_,?_,?_,?_,trivial⟩,?_⟩
     ·intro D a6  c8 c7 cP cS cU cO cN cT cQ cR cV cW cA cq cB cC cE cD cz dL dv dt dj du dJ w_
      rintro ⟨aF,aC,aB,aE,aD,aG,az,aK,aQ,aU,ao,ar,aw,aI,aJ,aM,aO,aN,aP,aT,a5,aZ,aY,a4,a7,hI⟩
      exact ⟨fun _=>rfl,aC,aB,aE,aD,aG,az,aK,aQ,aU,ao,ar,aw,aI,aJ,aM,aO,aN,aP,aT,a5,aZ,aY,a4,a7,hI⟩
     ·intro D a6  c8 c7 cP cS cU cO cN cT cQ cR cV cW cA cq cB cC cE cD cz dL dv dt dj du dJ w_
      rintro ⟨aF,aC,aB,aE,aD,aG,az,aK,aQ,aU,ao,ar,aw,aI,aJ,aM,aO,aN,aP,aT,a5,aZ,aY,a4,a7,hI⟩
      exact ⟨aF,fun _=>rfl,aB,aE,aD,aG,az,aK,aQ,aU,ao,ar,aw,aI,aJ,aM,aO,aN,aP,aT,a5,aZ,aY,a4,a7,hI⟩
     ·intro D a6 dc gl c8 c7 cP cS cU cO cN cT cQ cR cV cW cA cq cB cC cE cD cz dL dv dt dj du dJ w_
      rintro ⟨aF,aC,aB,aE,aD,aG,az,aK,aQ,aU,ao,ar,aw,aI,aJ,aM,aO,aN,aP,aT,a5,aZ,aY,a4,a7,hI⟩
      obtain rfl:=aF dc
      obtain rfl:=aC gl
      refine ct (by omega) ?_
      exact ⟨aF,aC,fun _=>rfl,aE,aD,aG,az,aK,aQ,aU,ao,ar,aw,aI,aJ,aM,aO,aN,aP,aT,a5,aZ,aY,a4,a7,hI⟩
     ·intro D a6  c8 c7 cP cS cU cO cN cT cQ cR cV cW cA cq cB cC cE cD cz dL dv dt dj du dJ w_
      rintro ⟨aF,aC,aB,aE,aD,aG,az,aK,aQ,aU,ao,ar,aw,aI,aJ,aM,aO,aN,aP,aT,a5,aZ,aY,a4,a7,hI⟩
      exact ⟨aF,aC,aB,fun _=>rfl,aD,aG,az,aK,aQ,aU,ao,ar,aw,aI,aJ,aM,aO,aN,aP,aT,a5,aZ,aY,a4,a7,hI⟩
     ·intro D a6 ef c8 c7 cP cS cU cO cN cT cQ cR cV cW cA cq cB cC cE cD cz dL dv dt dj du dJ w_
      rintro ⟨aF,aC,aB,aE,aD,aG,az,aK,aQ,aU,ao,ar,aw,aI,aJ,aM,aO,aN,aP,aT,a5,aZ,aY,a4,a7,hI⟩
      obtain rfl:=aE ef
      refine eA bf ?_
      exact ⟨aF,aC,aB,aE,fun _=>rfl,aG,az,aK,aQ,aU,ao,ar,aw,aI,aJ,aM,aO,aN,aP,aT,a5,aZ,aY,a4,a7,hI⟩
     ·intro D a6 dy ev c8 c7 cP cS cU cO cN cT cQ cR cV cW cA cq cB cC cE cD cz dL dv dt dj du dJ w_
      rintro ⟨aF,aC,aB,aE,aD,aG,az,aK,aQ,aU,ao,ar,aw,aI,aJ,aM,aO,aN,aP,aT,a5,aZ,aY,a4,a7,hI⟩
      obtain rfl:=aB dy
      obtain rfl:=aD ev
      refine xt (by omega) ?_
      exact ⟨aF,aC,aB,aE,aD,fun _=>rfl,az,aK,aQ,aU,ao,ar,aw,aI,aJ,aM,aO,aN,aP,aT,a5,aZ,aY,a4,a7,hI⟩
     ·intro D a6 eq c8 c7 cP cS cU cO cN cT cQ cR cV cW cA cq cB cC cE cD cz dL dv dt dj du dJ w_
      rintro ⟨aF,aC,aB,aE,aD,aG,az,aK,aQ,aU,ao,ar,aw,aI,aJ,aM,aO,aN,aP,aT,a5,aZ,aY,a4,a7,hI⟩
      obtain rfl:=aG eq
      exact ⟨aF,aC,aB,aE,aD,aG,fun _=>rfl,aK,aQ,aU,ao,ar,aw,aI,aJ,aM,aO,aN,aP,aT,a5,aZ,aY,a4,a7,hI⟩
     ·intro D a6 cw c8 c7 cP cS cU cO cN cT cQ cR cV cW cA cq cB cC cE cD cz dL dv dt dj du dJ w_
      rintro ⟨aF,aC,aB,aE,aD,aG,az,aK,aQ,aU,ao,ar,aw,aI,aJ,aM,aO,aN,aP,aT,a5,aZ,aY,a4,a7,hI⟩
      obtain rfl:=az cw
      refine ad ?_
      exact ⟨aF,aC,aB,aE,aD,aG,az,fun _=>rfl,aQ,aU,ao,ar,aw,aI,aJ,aM,aO,aN,aP,aT,a5,aZ,aY,a4,a7,hI⟩
     ·intro D a6 cw c8 c7 cP cS cU cO cN cT cQ cR cV cW cA cq cB cC cE cD cz dL dv dt dj du dJ w_
      rintro ⟨aF,aC,aB,aE,aD,aG,az,aK,aQ,aU,ao,ar,aw,aI,aJ,aM,aO,aN,aP,aT,a5,aZ,aY,a4,a7,hI⟩
      obtain rfl:=az cw
      refine ad ?_
      exact ⟨aF,aC,aB,aE,aD,aG,az,aK,fun _=>rfl,aU,ao,ar,aw,aI,aJ,aM,aO,aN,aP,aT,a5,aZ,aY,a4,a7,hI⟩
     ·intro D a6 cw c8 c7 cP cS cU cO cN cT cQ cR cV cW cA cq cB cC cE cD cz dL dv dt dj du dJ w_
      rintro ⟨aF,aC,aB,aE,aD,aG,az,aK,aQ,aU,ao,ar,aw,aI,aJ,aM,aO,aN,aP,aT,a5,aZ,aY,a4,a7,hI⟩
      obtain rfl:=az cw
      refine ad ?_
      exact ⟨aF,aC,aB,aE,aD,aG,az,aK,aQ,fun _=>rfl,ao,ar,aw,aI,aJ,aM,aO,aN,aP,aT,a5,aZ,aY,a4,a7,hI⟩
     ·intro D a6 cw c8 c7 cP cS cU cO cN cT cQ cR cV cW cA cq cB cC cE cD cz dL dv dt dj du dJ w_
      rintro ⟨aF,aC,aB,aE,aD,aG,az,aK,aQ,aU,ao,ar,aw,aI,aJ,aM,aO,aN,aP,aT,a5,aZ,aY,a4,a7,hI⟩
      obtain rfl:=az cw
      refine ad ?_
      exact ⟨aF,aC,aB,aE,aD,aG,az,aK,aQ,aU,fun _=>rfl,ar,aw,aI,aJ,aM,aO,aN,aP,aT,a5,aZ,aY,a4,a7,hI⟩
     ·intro D a6 vS fi jm c8 c7 cP cS cU cO cN cT cQ cR cV cW cA cq cB cC cE cD cz dL dv dt dj du dJ w_
      rintro ⟨aF,aC,aB,aE,aD,aG,az,aK,aQ,aU,ao,ar,aw,aI,aJ,aM,aO,aN,aP,aT,a5,aZ,aY,a4,a7,hI⟩
      obtain rfl:=aU vS
      obtain rfl:=ao fi
      obtain rfl:=az jm
      refine ad ?_; refine ct (by omega) ?_
      exact ⟨aF,aC,aB,aE,aD,aG,az,aK,aQ,aU,ao,fun _=>rfl,aw,aI,aJ,aM,aO,aN,aP,aT,a5,aZ,aY,a4,a7,hI⟩
     ·intro D a6 d6 fh y6 As c8 c7 cP cS cU cO cN cT cQ cR cV cW cA cq cB cC cE cD cz dL dv dt dj du dJ w_
      rintro ⟨aF,aC,aB,aE,aD,aG,az,aK,aQ,aU,ao,ar,aw,aI,aJ,aM,aO,aN,aP,aT,a5,aZ,aY,a4,a7,hI⟩
      obtain rfl:=aK d6
      obtain rfl:=aQ fh
      obtain rfl:=ar y6
      obtain rfl:=az As
      refine ad ?_; refine sW bf (by omega) (by omega) ?_
      exact ⟨aF,aC,aB,aE,aD,aG,az,aK,aQ,aU,ao,ar,fun _=>rfl,aI,aJ,aM,aO,aN,aP,aT,a5,aZ,aY,a4,a7,hI⟩
     ·intro D a6 cw c8 c7 cP cS cU cO cN cT cQ cR cV cW cA cq cB cC cE cD cz dL dv dt dj du dJ w_
      rintro ⟨aF,aC,aB,aE,aD,aG,az,aK,aQ,aU,ao,ar,aw,aI,aJ,aM,aO,aN,aP,aT,a5,aZ,aY,a4,a7,hI⟩
      obtain rfl:=az cw
      refine ad ?_
      exact ⟨aF,aC,aB,aE,aD,aG,az,aK,aQ,aU,ao,ar,aw,fun _=>rfl,aJ,aM,aO,aN,aP,aT,a5,aZ,aY,a4,a7,hI⟩
     ·intro D a6 cw c8 c7 cP cS cU cO cN cT cQ cR cV cW cA cq cB cC cE cD cz dL dv dt dj du dJ w_
      rintro ⟨aF,aC,aB,aE,aD,aG,az,aK,aQ,aU,ao,ar,aw,aI,aJ,aM,aO,aN,aP,aT,a5,aZ,aY,a4,a7,hI⟩
      obtain rfl:=az cw
      refine ad ?_
      exact ⟨aF,aC,aB,aE,aD,aG,az,aK,aQ,aU,ao,ar,aw,aI,fun _=>rfl,aM,aO,aN,aP,aT,a5,aZ,aY,a4,a7,hI⟩
     ·intro D a6 i7 zP jm c8 c7 cP cS cU cO cN cT cQ cR cV cW cA cq cB cC cE cD cz dL dv dt dj du dJ w_
      rintro ⟨aF,aC,aB,aE,aD,aG,az,aK,aQ,aU,ao,ar,aw,aI,aJ,aM,aO,aN,aP,aT,a5,aZ,aY,a4,a7,hI⟩
      obtain rfl:=aI i7
      obtain rfl:=aJ zP
      obtain rfl:=az jm
      refine ad ?_; refine bv cJ hj ?_
      exact ⟨aF,aC,aB,aE,aD,aG,az,aK,aQ,aU,ao,ar,aw,aI,aJ,fun _=>rfl,aO,aN,aP,aT,a5,aZ,aY,a4,a7,hI⟩
     ·intro D a6 mJ eO c8 c7 cP cS cU cO cN cT cQ cR cV cW cA cq cB cC cE cD cz dL dv dt dj du dJ w_
      rintro ⟨aF,aC,aB,aE,aD,aG,az,aK,aQ,aU,ao,ar,aw,aI,aJ,aM,aO,aN,aP,aT,a5,aZ,aY,a4,a7,hI⟩
      obtain rfl:=aM mJ
      obtain rfl:=az eO
      refine ad ?_; refine d4 bq ((hI.cellS hS).trans hcx) ?_
      exact ⟨aF,aC,aB,aE,aD,aG,az,aK,aQ,aU,ao,ar,aw,aI,aJ,aM,fun _=>rfl,aN,aP,aT,a5,aZ,aY,a4,a7,hI⟩
     ·intro D a6 kF lU jm c8 c7 cP cS cU cO cN cT cQ cR cV cW cA cq cB cC cE cD cz dL dv dt dj du dJ w_
      rintro ⟨aF,aC,aB,aE,aD,aG,az,aK,aQ,aU,ao,ar,aw,aI,aJ,aM,aO,aN,aP,aT,a5,aZ,aY,a4,a7,hI⟩
      obtain rfl:=aw kF
      obtain rfl:=aO lU
      obtain rfl:=az jm
      refine ad ?_; refine cr ?_; rw [hq]
      exact ⟨aF,aC,aB,aE,aD,aG,az,aK,aQ,aU,ao,ar,aw,aI,aJ,aM,aO,fun _=>rfl,aP,aT,a5,aZ,aY,a4,a7,hI⟩
     ·intro D a6 cw rB c8 c7 cP cS cU cO cN cT cQ cR cV cW cA cq cB cC cE cD cz dL dv dt dj du dJ w_
      rintro ⟨aF,aC,aB,aE,aD,aG,az,aK,aQ,aU,ao,ar,aw,aI,aJ,aM,aO,aN,aP,aT,a5,aZ,aY,a4,a7,hI⟩
      obtain rfl:=az cw
      obtain rfl:=aN rB
      refine aq ?_
      exact ⟨aF,aC,aB,aE,aD,aG,az,aK,aQ,aU,ao,ar,aw,aI,aJ,aM,aO,aN,fun _=>rfl,aT,a5,aZ,aY,a4,a7,hI⟩
     ·intro D a6 pr eO c8 c7 cP cS cU cO cN cT cQ cR cV cW cA cq cB cC cE cD cz dL dv dt dj du dJ w_
      rintro ⟨aF,aC,aB,aE,aD,aG,az,aK,aQ,aU,ao,ar,aw,aI,aJ,aM,aO,aN,aP,aT,a5,aZ,aY,a4,a7,hI⟩
      obtain rfl:=aP pr
      exact ⟨aF,aC,aB,aE,aD,aG,az,aK,aQ,aU,ao,ar,aw,aI,aJ,aM,aO,aN,aP,fun _=>rfl,a5,aZ,aY,a4,a7,hI⟩
     ·intro D a6 fF c8 c7 cP cS cU cO cN cT cQ cR cV cW cA cq cB cC cE cD cz dL dv dt dj du dJ w_
      rintro ⟨aF,aC,aB,aE,aD,aG,az,aK,aQ,aU,ao,ar,aw,aI,aJ,aM,aO,aN,aP,aT,a5,aZ,aY,a4,a7,hI⟩
      obtain rfl:=aT fF
      refine ad ?_
      exact ⟨aF,aC,aB,aE,aD,aG,az,aK,aQ,aU,ao,ar,aw,aI,aJ,aM,aO,aN,aP,aT,fun _=>rfl,aZ,aY,a4,a7,hI⟩
     ·intro D a6 fF c8 c7 cP cS cU cO cN cT cQ cR cV cW cA cq cB cC cE cD cz dL dv dt dj du dJ w_
      rintro ⟨aF,aC,aB,aE,aD,aG,az,aK,aQ,aU,ao,ar,aw,aI,aJ,aM,aO,aN,aP,aT,a5,aZ,aY,a4,a7,hI⟩
      obtain rfl:=aT fF
      refine ad ?_
      exact ⟨aF,aC,aB,aE,aD,aG,az,aK,aQ,aU,ao,ar,aw,aI,aJ,aM,aO,aN,aP,aT,a5,fun _=>rfl,aY,a4,a7,hI⟩
     ·intro D a6 tX zo c8 c7 cP cS cU cO cN cT cQ cR cV cW cA cq cB cC cE cD cz dL dv dt dj du dJ w_
      rintro ⟨aF,aC,aB,aE,aD,aG,az,aK,aQ,aU,ao,ar,aw,aI,aJ,aM,aO,aN,aP,aT,a5,aZ,aY,a4,a7,hI⟩
      obtain rfl:=aZ tX
      obtain rfl:=aT zo
      refine ad ?_; refine eA bf ?_
      exact ⟨aF,aC,aB,aE,aD,aG,az,aK,aQ,aU,ao,ar,aw,aI,aJ,aM,aO,aN,aP,aT,a5,aZ,fun _=>rfl,a4,a7,hI⟩
     ·intro D a6 ta z1 yp c8 c7 cP cS cU cO cN cT cQ cR cV cW cA cq cB cC cE cD cz dL dv dt dj du dJ w_
      rintro ⟨aF,aC,aB,aE,aD,aG,az,aK,aQ,aU,ao,ar,aw,aI,aJ,aM,aO,aN,aP,aT,a5,aZ,aY,a4,a7,hI⟩
      obtain rfl:=a5 ta
      obtain rfl:=aY z1
      obtain rfl:=aT yp
      refine ad ?_; refine eN ?_
      exact ⟨aF,aC,aB,aE,aD,aG,az,aK,aQ,aU,ao,ar,aw,aI,aJ,aM,aO,aN,aP,aT,a5,aZ,aY,fun _=>rfl,a7,hI⟩
     ·intro D a6 fF yN c8 c7 cP cS cU cO cN cT cQ cR cV cW cA cq cB cC cE cD cz dL dv dt dj du dJ w_
      rintro ⟨aF,aC,aB,aE,aD,aG,az,aK,aQ,aU,ao,ar,aw,aI,aJ,aM,aO,aN,aP,aT,a5,aZ,aY,a4,a7,hI⟩
      obtain rfl:=aT fF
      obtain rfl:=a4 yN
      refine aq ?_
      exact ⟨aF,aC,aB,aE,aD,aG,az,aK,aQ,aU,ao,ar,aw,aI,aJ,aM,aO,aN,aP,aT,a5,aZ,aY,a4,fun _=>rfl,hI⟩
     intro D Al Au AW AE Bo xU sV ui tv uC qB si ky gw fK kA iV ii gM gT hO iR im iT iS c8 c7 cP cS cU cO cN cT cQ cR cV cW cA cq cB cC cE cD cz dL dv dt dj du dJ w_
     rintro ⟨aF,aC,aB,aE,aD,aG,az,aK,aQ,aU,ao,ar,aw,aI,aJ,aM,aO,aN,aP,aT,a5,aZ,aY,a4,a7,hI⟩
     obtain rfl:=a7 Al
     obtain rfl:=a4 Au
     obtain rfl:=aY AW
     obtain rfl:=aZ AE
     obtain rfl:=a5 Bo
     obtain rfl:=aT xU
     obtain rfl:=aP sV
     obtain rfl:=aN ui
     obtain rfl:=aO tv
     obtain rfl:=aM uC
     obtain rfl:=aJ qB
     obtain rfl:=aI si
     obtain rfl:=aw ky
     obtain rfl:=ar gw
     obtain rfl:=ao fK
     obtain rfl:=aU kA
     obtain rfl:=aQ iV
     obtain rfl:=aK ii
     obtain rfl:=az gM
     obtain rfl:=aG gT
     obtain rfl:=aD hO
     obtain rfl:=aE iR
     obtain rfl:=aB im
     obtain rfl:=aC iT
     obtain rfl:=aF iS
     clear aF aC aB aE aD aG az aK aQ aU ao ar aw aI aJ aM aO aN aP aT a5 aZ aY a4 a7
     have hcut:cut s i (i+x.size)=bs x:=by rw [<- v6 (cut s i (i+x.size)),hq']
     refine bz (fun hb=>?_) (fun hb=>?_)
     ·refine bv cJ hj ?_
      refine d4 bq ((hI.cellS hS).trans hcx) ?_
      refine ⟨bs x,rfl,by rw [<- hcut,wH hlen]; omega,?_,hI⟩
      rw [if_pos ⟨decide_eq_true hlen,hcut,by omega⟩] at hbest
      exact hbest
     ·refine ⟨best,rfl,hbl,?_,hI⟩
      rw [if_neg] at hbest
      ·exact hbest
      ·rintro ⟨_,_,h3⟩
       omega
   ·skip
    refine ⟨fun D c8 c7 cP cS cU cO cN cT cQ cR cV cW cA cq cB cC cE cD cz dL dv dt dj du dJ w_=>(D 0=true->dJ=.int .i64 (i:Int))/\(D 1=true->du=.int .i64 (x.size:Int))/\(D 2=true->dj=.int .i64 ((i+x.size:Nat):Int))/\(D 3=true->dt=.string (st s))/\(D 4=true->dv=.int .i64 (s.length:Int))/\(D 5=true->dL=.bool false)/\(D 6=true->cz=.bool false)/\(D 7=true->cD=undef)/\(D 8=true->cE=undef)/\(D 9=true->cC=undef)/\(D 10=true->cB=undef)/\(D 11=true->cq=undef)/\(D 12=true->cA=undef)/\(D 13=true->cW=undef)/\(D 14=true->cV=undef)/\(D 15=true->cR=undef)/\(D 16=true->cQ=undef)/\(D 17=true->cT=undef)/\(D 18=true->cN=.bool false)/\(D 19=true->cO=.bool false)/\(D 20=true->cU=undef)/\(D 21=true->cS=undef)/\(D 22=true->cP=undef)/\(D 23=true->c7=undef)/\(D 24=true->c8=.bool false)/\Inv w [] [] S1 w_,⟨af,af,af,af,af,af,af,af,af,af,af,af,af,af,af,af,af,af,af,af,af,af,af,af,af,hI.draw⟩,⟨?_,?_,?_,?_,?_,?_,?_,?_,?_,?_,?_,?_,?_,?_,?_,?_,?_,?_,?_,?_,?_,?_,?_,?_,?_,trivial⟩,?_⟩
    ·intro D a6  c8 c7 cP cS cU cO cN cT cQ cR cV cW cA cq cB cC cE cD cz dL dv dt dj du dJ w_
     rintro ⟨aF,aC,aB,aE,aD,aG,az,aK,aQ,aU,ao,ar,aw,aI,aJ,aM,aO,aN,aP,aT,a5,aZ,aY,a4,a7,hI⟩
     exact ⟨fun _=>rfl,aC,aB,aE,aD,aG,az,aK,aQ,aU,ao,ar,aw,aI,aJ,aM,aO,aN,aP,aT,a5,aZ,aY,a4,a7,hI⟩
    ·intro D a6  c8 c7 cP cS cU cO cN cT cQ cR cV cW cA cq cB cC cE cD cz dL dv dt dj du dJ w_
     rintro ⟨aF,aC,aB,aE,aD,aG,az,aK,aQ,aU,ao,ar,aw,aI,aJ,aM,aO,aN,aP,aT,a5,aZ,aY,a4,a7,hI⟩
     exact ⟨aF,fun _=>rfl,aB,aE,aD,aG,az,aK,aQ,aU,ao,ar,aw,aI,aJ,aM,aO,aN,aP,aT,a5,aZ,aY,a4,a7,hI⟩
    ·intro D a6 dc gl c8 c7 cP cS cU cO cN cT cQ cR cV cW cA cq cB cC cE cD cz dL dv dt dj du dJ w_
     rintro ⟨aF,aC,aB,aE,aD,aG,az,aK,aQ,aU,ao,ar,aw,aI,aJ,aM,aO,aN,aP,aT,a5,aZ,aY,a4,a7,hI⟩
     obtain rfl:=aF dc
     obtain rfl:=aC gl
     refine ct (by omega) ?_
     exact ⟨aF,aC,fun _=>rfl,aE,aD,aG,az,aK,aQ,aU,ao,ar,aw,aI,aJ,aM,aO,aN,aP,aT,a5,aZ,aY,a4,a7,hI⟩
    ·intro D a6  c8 c7 cP cS cU cO cN cT cQ cR cV cW cA cq cB cC cE cD cz dL dv dt dj du dJ w_
     rintro ⟨aF,aC,aB,aE,aD,aG,az,aK,aQ,aU,ao,ar,aw,aI,aJ,aM,aO,aN,aP,aT,a5,aZ,aY,a4,a7,hI⟩
     exact ⟨aF,aC,aB,fun _=>rfl,aD,aG,az,aK,aQ,aU,ao,ar,aw,aI,aJ,aM,aO,aN,aP,aT,a5,aZ,aY,a4,a7,hI⟩
    ·intro D a6 ef c8 c7 cP cS cU cO cN cT cQ cR cV cW cA cq cB cC cE cD cz dL dv dt dj du dJ w_
     rintro ⟨aF,aC,aB,aE,aD,aG,az,aK,aQ,aU,ao,ar,aw,aI,aJ,aM,aO,aN,aP,aT,a5,aZ,aY,a4,a7,hI⟩
     obtain rfl:=aE ef
     refine eA bf ?_
     exact ⟨aF,aC,aB,aE,fun _=>rfl,aG,az,aK,aQ,aU,ao,ar,aw,aI,aJ,aM,aO,aN,aP,aT,a5,aZ,aY,a4,a7,hI⟩
    ·intro D a6 dy ev c8 c7 cP cS cU cO cN cT cQ cR cV cW cA cq cB cC cE cD cz dL dv dt dj du dJ w_
     rintro ⟨aF,aC,aB,aE,aD,aG,az,aK,aQ,aU,ao,ar,aw,aI,aJ,aM,aO,aN,aP,aT,a5,aZ,aY,a4,a7,hI⟩
     obtain rfl:=aB dy
     obtain rfl:=aD ev
     refine De (by omega) ?_
     exact ⟨aF,aC,aB,aE,aD,fun _=>rfl,az,aK,aQ,aU,ao,ar,aw,aI,aJ,aM,aO,aN,aP,aT,a5,aZ,aY,a4,a7,hI⟩
    ·intro D a6 eq c8 c7 cP cS cU cO cN cT cQ cR cV cW cA cq cB cC cE cD cz dL dv dt dj du dJ w_
     rintro ⟨aF,aC,aB,aE,aD,aG,az,aK,aQ,aU,ao,ar,aw,aI,aJ,aM,aO,aN,aP,aT,a5,aZ,aY,a4,a7,hI⟩
     obtain rfl:=aG eq
     exact ⟨aF,aC,aB,aE,aD,aG,fun _=>rfl,aK,aQ,aU,ao,ar,aw,aI,aJ,aM,aO,aN,aP,aT,a5,aZ,aY,a4,a7,hI⟩
    ·intro D a6 cw c8 c7 cP cS cU cO cN cT cQ cR cV cW cA cq cB cC cE cD cz dL dv dt dj du dJ w_
     rintro ⟨aF,aC,aB,aE,aD,aG,az,aK,aQ,aU,ao,ar,aw,aI,aJ,aM,aO,aN,aP,aT,a5,aZ,aY,a4,a7,hI⟩
     obtain rfl:=az cw
     refine ag (c:=false) (b:=true) (by decide) ?_
     exact ⟨aF,aC,aB,aE,aD,aG,az,fun _=>rfl,aQ,aU,ao,ar,aw,aI,aJ,aM,aO,aN,aP,aT,a5,aZ,aY,a4,a7,hI⟩
    ·intro D a6 cw c8 c7 cP cS cU cO cN cT cQ cR cV cW cA cq cB cC cE cD cz dL dv dt dj du dJ w_
     rintro ⟨aF,aC,aB,aE,aD,aG,az,aK,aQ,aU,ao,ar,aw,aI,aJ,aM,aO,aN,aP,aT,a5,aZ,aY,a4,a7,hI⟩
     obtain rfl:=az cw
     refine ag (c:=false) (b:=true) (by decide) ?_
     exact ⟨aF,aC,aB,aE,aD,aG,az,aK,fun _=>rfl,aU,ao,ar,aw,aI,aJ,aM,aO,aN,aP,aT,a5,aZ,aY,a4,a7,hI⟩
    ·intro D a6 cw c8 c7 cP cS cU cO cN cT cQ cR cV cW cA cq cB cC cE cD cz dL dv dt dj du dJ w_
     rintro ⟨aF,aC,aB,aE,aD,aG,az,aK,aQ,aU,ao,ar,aw,aI,aJ,aM,aO,aN,aP,aT,a5,aZ,aY,a4,a7,hI⟩
     obtain rfl:=az cw
     refine ag (c:=false) (b:=true) (by decide) ?_
     exact ⟨aF,aC,aB,aE,aD,aG,az,aK,aQ,fun _=>rfl,ao,ar,aw,aI,aJ,aM,aO,aN,aP,aT,a5,aZ,aY,a4,a7,hI⟩
    ·intro D a6 cw c8 c7 cP cS cU cO cN cT cQ cR cV cW cA cq cB cC cE cD cz dL dv dt dj du dJ w_
     rintro ⟨aF,aC,aB,aE,aD,aG,az,aK,aQ,aU,ao,ar,aw,aI,aJ,aM,aO,aN,aP,aT,a5,aZ,aY,a4,a7,hI⟩
     obtain rfl:=az cw
     refine ag (c:=false) (b:=true) (by decide) ?_
     exact ⟨aF,aC,aB,aE,aD,aG,az,aK,aQ,aU,fun _=>rfl,ar,aw,aI,aJ,aM,aO,aN,aP,aT,a5,aZ,aY,a4,a7,hI⟩
    ·intro D a6 vS fi jm c8 c7 cP cS cU cO cN cT cQ cR cV cW cA cq cB cC cE cD cz dL dv dt dj du dJ w_
     rintro ⟨aF,aC,aB,aE,aD,aG,az,aK,aQ,aU,ao,ar,aw,aI,aJ,aM,aO,aN,aP,aT,a5,aZ,aY,a4,a7,hI⟩
     obtain rfl:=aU vS
     obtain rfl:=ao fi
     obtain rfl:=az jm
     refine ag (c:=false) (b:=true) (by decide) ?_
     exact ⟨aF,aC,aB,aE,aD,aG,az,aK,aQ,aU,ao,fun _=>rfl,aw,aI,aJ,aM,aO,aN,aP,aT,a5,aZ,aY,a4,a7,hI⟩
    ·intro D a6 d6 fh y6 As c8 c7 cP cS cU cO cN cT cQ cR cV cW cA cq cB cC cE cD cz dL dv dt dj du dJ w_
     rintro ⟨aF,aC,aB,aE,aD,aG,az,aK,aQ,aU,ao,ar,aw,aI,aJ,aM,aO,aN,aP,aT,a5,aZ,aY,a4,a7,hI⟩
     obtain rfl:=aK d6
     obtain rfl:=aQ fh
     obtain rfl:=ar y6
     obtain rfl:=az As
     refine ag (c:=false) (b:=true) (by decide) ?_
     exact ⟨aF,aC,aB,aE,aD,aG,az,aK,aQ,aU,ao,ar,fun _=>rfl,aI,aJ,aM,aO,aN,aP,aT,a5,aZ,aY,a4,a7,hI⟩
    ·intro D a6 cw c8 c7 cP cS cU cO cN cT cQ cR cV cW cA cq cB cC cE cD cz dL dv dt dj du dJ w_
     rintro ⟨aF,aC,aB,aE,aD,aG,az,aK,aQ,aU,ao,ar,aw,aI,aJ,aM,aO,aN,aP,aT,a5,aZ,aY,a4,a7,hI⟩
     obtain rfl:=az cw
     refine ag (c:=false) (b:=true) (by decide) ?_
     exact ⟨aF,aC,aB,aE,aD,aG,az,aK,aQ,aU,ao,ar,aw,fun _=>rfl,aJ,aM,aO,aN,aP,aT,a5,aZ,aY,a4,a7,hI⟩
    ·intro D a6 cw c8 c7 cP cS cU cO cN cT cQ cR cV cW cA cq cB cC cE cD cz dL dv dt dj du dJ w_
     rintro ⟨aF,aC,aB,aE,aD,aG,az,aK,aQ,aU,ao,ar,aw,aI,aJ,aM,aO,aN,aP,aT,a5,aZ,aY,a4,a7,hI⟩
     obtain rfl:=az cw
     refine ag (c:=false) (b:=true) (by decide) ?_
     exact ⟨aF,aC,aB,aE,aD,aG,az,aK,aQ,aU,ao,ar,aw,aI,fun _=>rfl,aM,aO,aN,aP,aT,a5,aZ,aY,a4,a7,hI⟩
    ·intro D a6 i7 zP jm c8 c7 cP cS cU cO cN cT cQ cR cV cW cA cq cB cC cE cD cz dL dv dt dj du dJ w_
     rintro ⟨aF,aC,aB,aE,aD,aG,az,aK,aQ,aU,ao,ar,aw,aI,aJ,aM,aO,aN,aP,aT,a5,aZ,aY,a4,a7,hI⟩
     obtain rfl:=aI i7
     obtain rfl:=aJ zP
     obtain rfl:=az jm
     refine ag (c:=false) (b:=true) (by decide) ?_
     exact ⟨aF,aC,aB,aE,aD,aG,az,aK,aQ,aU,ao,ar,aw,aI,aJ,fun _=>rfl,aO,aN,aP,aT,a5,aZ,aY,a4,a7,hI⟩
    ·intro D a6 mJ eO c8 c7 cP cS cU cO cN cT cQ cR cV cW cA cq cB cC cE cD cz dL dv dt dj du dJ w_
     rintro ⟨aF,aC,aB,aE,aD,aG,az,aK,aQ,aU,ao,ar,aw,aI,aJ,aM,aO,aN,aP,aT,a5,aZ,aY,a4,a7,hI⟩
     obtain rfl:=aM mJ
     obtain rfl:=az eO
     refine ag (c:=false) (b:=true) (by decide) ?_
     exact ⟨aF,aC,aB,aE,aD,aG,az,aK,aQ,aU,ao,ar,aw,aI,aJ,aM,fun _=>rfl,aN,aP,aT,a5,aZ,aY,a4,a7,hI⟩
    ·intro D a6 kF lU jm c8 c7 cP cS cU cO cN cT cQ cR cV cW cA cq cB cC cE cD cz dL dv dt dj du dJ w_
     rintro ⟨aF,aC,aB,aE,aD,aG,az,aK,aQ,aU,ao,ar,aw,aI,aJ,aM,aO,aN,aP,aT,a5,aZ,aY,a4,a7,hI⟩
     obtain rfl:=aw kF
     obtain rfl:=aO lU
     obtain rfl:=az jm
     refine ag (c:=false) (b:=true) (by decide) ?_
     exact ⟨aF,aC,aB,aE,aD,aG,az,aK,aQ,aU,ao,ar,aw,aI,aJ,aM,aO,fun _=>rfl,aP,aT,a5,aZ,aY,a4,a7,hI⟩
    ·intro D a6 cw rB c8 c7 cP cS cU cO cN cT cQ cR cV cW cA cq cB cC cE cD cz dL dv dt dj du dJ w_
     rintro ⟨aF,aC,aB,aE,aD,aG,az,aK,aQ,aU,ao,ar,aw,aI,aJ,aM,aO,aN,aP,aT,a5,aZ,aY,a4,a7,hI⟩
     obtain rfl:=az cw
     obtain rfl:=aN rB
     refine al ?_
     exact ⟨aF,aC,aB,aE,aD,aG,az,aK,aQ,aU,ao,ar,aw,aI,aJ,aM,aO,aN,fun _=>rfl,aT,a5,aZ,aY,a4,a7,hI⟩
    ·intro D a6 pr eO c8 c7 cP cS cU cO cN cT cQ cR cV cW cA cq cB cC cE cD cz dL dv dt dj du dJ w_
     rintro ⟨aF,aC,aB,aE,aD,aG,az,aK,aQ,aU,ao,ar,aw,aI,aJ,aM,aO,aN,aP,aT,a5,aZ,aY,a4,a7,hI⟩
     obtain rfl:=aP pr
     exact ⟨aF,aC,aB,aE,aD,aG,az,aK,aQ,aU,ao,ar,aw,aI,aJ,aM,aO,aN,aP,fun _=>rfl,a5,aZ,aY,a4,a7,hI⟩
    ·intro D a6 fF c8 c7 cP cS cU cO cN cT cQ cR cV cW cA cq cB cC cE cD cz dL dv dt dj du dJ w_
     rintro ⟨aF,aC,aB,aE,aD,aG,az,aK,aQ,aU,ao,ar,aw,aI,aJ,aM,aO,aN,aP,aT,a5,aZ,aY,a4,a7,hI⟩
     obtain rfl:=aT fF
     refine ag (c:=false) (b:=true) (by decide) ?_
     exact ⟨aF,aC,aB,aE,aD,aG,az,aK,aQ,aU,ao,ar,aw,aI,aJ,aM,aO,aN,aP,aT,fun _=>rfl,aZ,aY,a4,a7,hI⟩
    ·intro D a6 fF c8 c7 cP cS cU cO cN cT cQ cR cV cW cA cq cB cC cE cD cz dL dv dt dj du dJ w_
     rintro ⟨aF,aC,aB,aE,aD,aG,az,aK,aQ,aU,ao,ar,aw,aI,aJ,aM,aO,aN,aP,aT,a5,aZ,aY,a4,a7,hI⟩
     obtain rfl:=aT fF
     refine ag (c:=false) (b:=true) (by decide) ?_
     exact ⟨aF,aC,aB,aE,aD,aG,az,aK,aQ,aU,ao,ar,aw,aI,aJ,aM,aO,aN,aP,aT,a5,fun _=>rfl,aY,a4,a7,hI⟩
    ·intro D a6 tX zo c8 c7 cP cS cU cO cN cT cQ cR cV cW cA cq cB cC cE cD cz dL dv dt dj du dJ w_
     rintro ⟨aF,aC,aB,aE,aD,aG,az,aK,aQ,aU,ao,ar,aw,aI,aJ,aM,aO,aN,aP,aT,a5,aZ,aY,a4,a7,hI⟩
     obtain rfl:=aZ tX
     obtain rfl:=aT zo
     refine ag (c:=false) (b:=true) (by decide) ?_
     exact ⟨aF,aC,aB,aE,aD,aG,az,aK,aQ,aU,ao,ar,aw,aI,aJ,aM,aO,aN,aP,aT,a5,aZ,fun _=>rfl,a4,a7,hI⟩
    ·intro D a6 ta z1 yp c8 c7 cP cS cU cO cN cT cQ cR cV cW cA cq cB cC cE cD cz dL dv dt dj du dJ w_
     rintro ⟨aF,aC,aB,aE,aD,aG,az,aK,aQ,aU,ao,ar,aw,aI,aJ,aM,aO,aN,aP,aT,a5,aZ,aY,a4,a7,hI⟩
     obtain rfl:=a5 ta
     obtain rfl:=aY z1
     obtain rfl:=aT yp
     refine ag (c:=false) (b:=true) (by decide) ?_
     exact ⟨aF,aC,aB,aE,aD,aG,az,aK,aQ,aU,ao,ar,aw,aI,aJ,aM,aO,aN,aP,aT,a5,aZ,aY,fun _=>rfl,a7,hI⟩
    ·intro D a6 fF yN c8 c7 cP cS cU cO cN cT cQ cR cV cW cA cq cB cC cE cD cz dL dv dt dj du dJ w_
     rintro ⟨aF,aC,aB,aE,aD,aG,az,aK,aQ,aU,ao,ar,aw,aI,aJ,aM,aO,aN,aP,aT,a5,aZ,aY,a4,a7,hI⟩
     obtain rfl:=aT fF
     obtain rfl:=a4 yN
     refine al ?_
     exact ⟨aF,aC,aB,aE,aD,aG,az,aK,aQ,aU,ao,ar,aw,aI,aJ,aM,aO,aN,aP,aT,a5,aZ,aY,a4,fun _=>rfl,hI⟩
    intro D Al Au AW AE Bo xU sV ui tv uC qB si ky gw fK kA iV ii gM gT hO iR im iT iS c8 c7 cP cS cU cO cN cT cQ cR cV cW cA cq cB cC cE cD cz dL dv dt dj du dJ w_
    rintro ⟨aF,aC,aB,aE,aD,aG,az,aK,aQ,aU,ao,ar,aw,aI,aJ,aM,aO,aN,aP,aT,a5,aZ,aY,a4,a7,hI⟩
    obtain rfl:=a7 Al
    obtain rfl:=a4 Au
    obtain rfl:=aY AW
    obtain rfl:=aZ AE
    obtain rfl:=a5 Bo
    obtain rfl:=aT xU
    obtain rfl:=aP sV
    obtain rfl:=aN ui
    obtain rfl:=aO tv
    obtain rfl:=aM uC
    obtain rfl:=aJ qB
    obtain rfl:=aI si
    obtain rfl:=aw ky
    obtain rfl:=ar gw
    obtain rfl:=ao fK
    obtain rfl:=aU kA
    obtain rfl:=aQ iV
    obtain rfl:=aK ii
    obtain rfl:=az gM
    obtain rfl:=aG gT
    obtain rfl:=aD hO
    obtain rfl:=aE iR
    obtain rfl:=aB im
    obtain rfl:=aC iT
    obtain rfl:=aF iS
    clear aF aC aB aE aD aG az aK aQ aU ao ar aw aI aJ aM aO aN aP aT a5 aZ aY a4 a7
    refine bg (fun hb=>by cases hb) (fun _=>?_)
    refine ⟨best,rfl,hbl,?_,hI⟩
    rw [if_neg] at hbest
    ·exact hbest
    ·rintro ⟨h1,_⟩
     rw [decide_eq_true_eq] at h1
     exact hlen h1
  intro t7 _ _ _ _ _ _ _ _ _ _ _ _ _ _ _ _ _ _ _ _ _ _ _ _ _ _ _ _ _ _ _ _ _ _ _ w'
  rintro ⟨best',rfl,hbl',hb',hI⟩
  refine ct (by omega) ?_
  exact ⟨⟨j+1,best',hj,rfl,rfl,hbl',hb',hI⟩,by simp [intOf]; omega⟩
 ·have:j=signs.length:=by omega
  subst this
  rw [List.drop_length,fS] at hbest
  rw [<- hbest] at hnm
  refine cr ?_
  refine bz (fun hb=>?_) (fun hb=>?_)
  ·have:best=[]:=by rw [<- v6 best,hb]
   exact n7 hI hle (by rw [hnm,if_pos this]; rfl)
  ·have:¬ best=[]:=fun h=>hb (by rw [h])
   refine eA bf ?_
   refine ct (by omega) ?_
   exact n7 hI hle (by rw [hnm,if_neg this]; rfl)
end
theorem qw (s:Bs) (i:Nat):∀ (l:List ByteArray) (b:Bs),(∀ x∈l,x.size<=3)->b.length<=3->i+b.length<=s.length->i+(fS s i l b).length<=s.length/\(fS s i l b).length<=3
 | [],b,_,h2,h3=>⟨h3,h2⟩
 | x::l,b,h1,h2,h3=>by
  rw [fS]
  have hx:(bs x).length=x.size:=Array.length_toList
  split
  ·rename_i h
   exact qw s i l _ (fun y hy=>h1 y (List.mem_cons_of_mem _ hy)) (by rw [hx]; exact h1 x (List.mem_cons_self ..)) (by rw [hx]; exact of_decide_eq_true h.1)
  ·exact qw s i l _ (fun y hy=>h1 y (List.mem_cons_of_mem _ hy)) h2 h3
theorem BW (s:Bs):∀ (n e:Nat),e<=sG s n e/\sG s n e<=e+n
 | 0,e=>by simp [sG]
 | n+1,e=>by
  rw [sG]
  split
  ·have:=BW s n (e+1); omega
  ·omega
theorem n8 {s:Bs} {i:Nat} {n:Bs} {e:Nat} (hi:i<s.length) (h:oA s i=some (n,e)):i<e/\e<=s.length/\n.length<=6/\n≠[]:=by
 have hl:=BW s (s.length - i) i
 have hb:=qw s i signs [] yv (by simp) (by simpa using Nat.le_of_lt hi)
 unfold oA at h
 simp only [] at h
 split at h
 ·cases h
 ·split at h
  ·simp only [Option.some.injEq,Prod.mk.injEq] at h
   obtain ⟨rfl,rfl⟩:=h
   rename_i h1 h2
   have hc:=wH (s:=s) (a:=i) (b:=sG s (s.length - i) i) (by omega)
   refine ⟨h2,by omega,by omega,fun h=>?_⟩
   rw [h] at hc
   simp at hc
   omega
  ·split at h
   ·cases h
   ·simp only [Option.some.injEq,Prod.mk.injEq] at h
    obtain ⟨rfl,rfl⟩:=h
    rename_i h3
    have:0<(fS s i signs []).length:=by
     cases he:fS s i signs [] with
     | nil=>exact absurd he h3
     | cons a l=>simp
    exact ⟨by omega,by omega,by omega,h3⟩
def opV (o:Option (Bs × Nat)) (i:Nat):Value:=match o with
 | none=>.tuple #[.string ⟨#[]⟩,.int .i64 (i:Int)]
 | some (n,e)=>.tuple #[.string (st n),.int .i64 (e:Int)]
theorem D0 {s:Bs} {i:Nat} {n:Bs} {e:Nat} (h:opF s i=some (n,e)):i<e/\e<=s.length/\n.length<=6/\n≠[]:=by
 unfold opF at h
 obtain ⟨fr,hfr⟩:∃ fr,fr=if sgn s i 32=true then i+1 else i:=⟨_,rfl⟩
 simp only [<- hfr] at h
 have hfi:i<=fr:=by rw [hfr]; split <;> omega
 split at h
 ·cases h
 rename_i hlt
 split at h
 ·cases h
 rename_i nm nx hnm
 obtain ⟨h1,h2,h3,h4⟩:=n8 (by omega) hnm
 split at h
 ·cases h
 rename_i hc
 simp only [not_or,not_and,Bool.not_eq_false] at hc
 simp only [Option.some.injEq,Prod.mk.injEq] at h
 obtain ⟨rfl,rfl⟩:=h
 refine ⟨by split <;> omega,?_,h3,h4⟩
 split
 ·rename_i hw
  have:=fG (hc.2.2 hw)
  omega
 ·exact h2
section
attribute [local irreducible] Run CondV ah ba
theorem Bk {s:Bs} {i:Nat} (hs:s.length<=100000) (hi:i<=s.length) (S:ax):Pure Tryz.prog D1 [.string (st s),.int .i64 (i:Int)] S (opV (opF s i) i):=by
 intro w hI
 refine xW ?_
 unfold v8
 obtain ⟨fr,hfr⟩:∃ fr,fr=if sgn s i 32=true then i+1 else i:=⟨_,rfl⟩
 have hfi:i<=fr/\fr<=i+1:=by rw [hfr]; split <;> omega
 obtain ⟨r,hr⟩:∃ r,r=opF s i:=⟨_,rfl⟩
 rw [<- hr]
 unfold opF at hr
 simp only [<- hfr] at hr
 refine ⟨fun t w'=>t=.int .i64 (fr:Int)/\Inv w [] [] S w',?_,?_⟩
 ·refine Run.callPure cZ c3 hI (cF s i 32 S) fun w' hI=>?_
  refine bg (fun hb=>?_) (fun hb=>?_)
  ·refine ct (by omega) ?_
   rw [if_pos hb] at hfr
   exact ⟨by rw [hfr]; congr 1,hI⟩
  ·rw [if_neg (by rw [hb]; decide)] at hfr
   exact ⟨by rw [hfr],hI⟩
 intro t6 _ _ _ _ _ w'
 rintro ⟨rfl,hI⟩
 refine eA bf ?_
 refine pg ?_
 refine bz (fun hb=>?_) (fun hb=>?_)
 ·rw [if_pos (by omega)] at hr
  exact done hI (by rw [hr]; rfl)
 rw [if_neg (by omega)] at hr
 refine Run.callPure ro ru hI (ou (by omega) hs S) fun w' hI=>?_
 cases hnm:oA s fr with
 | none=>
  rw [hnm] at hr
  simp only [] at hr
  simp only [BP]
  refine bj rfl ?_
  refine bj rfl ?_
  refine ⟨fun t w'=>t=.bool true/\Inv w [] [] S w',?_,?_⟩
  ·refine ux (by omega) ?_
   repeat (first|refine ad ?_|refine ag (by decide) ?_|refine ae ?_|refine aq ?_|refine al ?_)
   exact ⟨rfl,hI⟩
  intro t33 _ _ _ _ _ _ w'
  rintro ⟨rfl,hI⟩
  exact bg (fun _=>done hI (by rw [hr]; rfl)) (fun hb=>by cases hb)
 | some q=>
  obtain ⟨nm,nx⟩:=q
  rw [hnm] at hr
  simp only [] at hr
  obtain ⟨h1,h2,h3,h4⟩:=n8 (by omega) hnm
  simp only [BP]
  refine bj (v:=.string (st nm)) rfl ?_
  refine bj (v:=.int .i64 (nx:Int)) rfl ?_
  refine ⟨fun t w'=>t=.bool (decide (cG (st nm)=0))/\Inv w [] [] S w',?_,?_⟩
  ·refine ed (by omega) ?_
   repeat (first|refine ad ?_|refine ag (by decide) ?_|refine ae ?_|refine aq ?_|refine al ?_)
   refine Run.callPure eC ez hI (dH _ S) fun w' hI=>?_
   refine bK ?_
   repeat (first|refine ad ?_|refine ag (by decide) ?_|refine ae ?_|refine aq ?_|refine al ?_)
   exact ⟨rfl,hI⟩
  intro t33 _ _ _ _ _ _ w'
  rintro ⟨rfl,hI⟩
  refine bz (fun hb=>?_) (fun hb=>?_)
  ·rw [if_pos (.inl hb)] at hr
   exact done hI (by rw [hr]; rfl)
  obtain ⟨word,hword⟩:∃ word,word=(decide (nm=[105,115]) || decide (nm=[109,111,100])):=⟨_,rfl⟩
  rw [<- hword] at hr
  refine ⟨fun t w'=>t=.bool word/\Inv w [] [] S w',?_,?_⟩
  ·refine tF (b:=[105,115]) ?_
   cases h5:decide (nm=[105,115])
   ·repeat (first|refine ad ?_|refine ag (by decide) ?_|refine ae ?_|refine aq ?_|refine al ?_)
    refine tF (b:=[109,111,100]) ?_
    repeat (first|refine ad ?_|refine ag (by decide) ?_|refine ae ?_|refine aq ?_|refine al ?_)
    exact ⟨by rw [hword,h5,Bool.false_or],hI⟩
   ·repeat (first|refine ad ?_|refine ag (by decide) ?_|refine ae ?_|refine aq ?_|refine al ?_)
    exact ⟨by rw [hword,h5,Bool.true_or],hI⟩
  intro t9 _ _ _ _ _ _ w'
  rintro ⟨rfl,hI⟩
  refine ⟨fun t w'=>t=.bool (decide (word≠decide (i<fr)) || (word && !sgn s nx 32))/\Inv w [] [] S w',?_,?_⟩
  ·refine eN ?_
   refine C2 sH ?_
   have e1:decide ((i:Int)<(fr:Int))=decide (i<fr):=by rw [decide_eq_decide]; omega
   rw [e1]
   cases h6:decide (i<fr) <;> cases word
   ·repeat (first|refine ad ?_|refine ag (by decide) ?_|refine ae ?_|refine aq ?_|refine al ?_)
    exact ⟨by rfl,hI⟩
   ·repeat (first|refine ad ?_|refine ag (by decide) ?_|refine ae ?_|refine aq ?_|refine al ?_)
    exact ⟨by rfl,hI⟩
   ·repeat (first|refine ad ?_|refine ag (by decide) ?_|refine ae ?_|refine aq ?_|refine al ?_)
    exact ⟨by rfl,hI⟩
   ·repeat (first|refine ad ?_|refine ag (by decide) ?_|refine ae ?_|refine aq ?_|refine al ?_)
    refine Run.callPure cZ c3 hI (cF s nx 32 S) fun w' hI=>?_
    refine dT ?_
    repeat (first|refine ad ?_|refine ag (by decide) ?_|refine ae ?_|refine aq ?_|refine al ?_)
    exact ⟨by simp,hI⟩
  intro t54 _ _ _ _ _ _ _ _ _ _ _ _ _ w'
  rintro ⟨rfl,hI⟩
  refine bg (fun hb'=>?_) (fun hb'=>?_)
  ·rw [if_pos] at hr
   ·exact done hI (by rw [hr]; rfl)
   ·rw [Bool.or_eq_true,decide_eq_true_eq,Bool.and_eq_true,Bool.not_eq_true'] at hb'
    exact .inr hb'
  ·rw [if_neg] at hr
   ·refine ⟨fun t w'=>t=.int .i64 ((if word=true then nx+1 else nx:Nat):Int)/\Inv w [] [] S w',?_,?_⟩
    ·refine bg (fun hw=>?_) (fun hw=>?_)
     ·refine ct (by omega) ?_
      exact ⟨by rw [if_pos hw]; congr 1,hI⟩
     ·exact ⟨by rw [if_neg (by rw [hw]; decide)],hI⟩
    intro t8 _ _ _ w'
    rintro ⟨rfl,hI⟩
    exact done hI (by rw [hr]; rfl)
   ·rw [Bool.or_eq_false_iff,decide_eq_false_iff_not] at hb'
    rintro (h|h|⟨h,h'⟩)
    ·exact hb h
    ·exact hb'.1 h
    ·rw [h,h'] at hb'
     simp at hb'
end
end Go.Proofs.YtmnnpgdeecnfpaaGreat

/- Publishing what a call owns; what is published since. -/
namespace Go.Proofs.YtmnnpgdeecnfpaaGreat
open Go Go.RowKit
/- a tree of one's own, published -/
theorem Inv.pubExt {w0 w:World} {X:List Nat} {A:List Item} {S:ax} {L:bn} (h:Inv w0 X (A++bk L) S w) :
  ∃ S',Inv w0 X A S' w/\Ext w0.heap.size X S S'/\Ins S' L:=by
 obtain ⟨S',h1,h2,h3,h4⟩:=h.publishAll L
 refine ⟨S',h1,⟨h2,fun b o hb=>?_⟩,h3⟩
 rcases h4 b o hb with h5|h5
 ·exact .inl h5
 ·right
  exact h.new b (by rw [cj]; exact List.mem_append_right _ h5)
theorem Inv.pub1 {w0 w:World} {X:List Nat} {A:List Item} {S:ax} {b:Nat} {o:Obj} (h:Inv w0 X (A++[.blk b o]) S w) :
  ∃ S',Inv w0 X A S' w/\Ext w0.heap.size X S S'/\S' b=some o:=by
 obtain ⟨S',h1,h2,h3⟩:=Inv.pubExt (A:=A) (L:=[(b,o)]) h
 exact ⟨S',h1,h2,h3 _ (List.mem_singleton.2 rfl)⟩
theorem Rows.monoR {α:Type} {k:Nat} {R R':List Value->α->Prop} {css:List (List Value)} {ys:List α} (h:Rows k R css ys) (hR:∀ cs y,R cs y->R' cs y):Rows k R' css ys:=⟨h.hc,h.hk,fun i h1 h2=>hR _ _ (h.hR i h1 h2)⟩
theorem Rows.one {α:Type} {k:Nat} {R:List Value->α->Prop} {cs:List Value} {y:α} (hR:R cs y) (hl:cs.length=k):Rows k R [cs] [y]:=by
 have:=(Rows.nil k R).snoc hR hl
 exact this
section
variable {P:Program} {w w0:World} {X:List Nat} {L:List Item} {S:ax} {K:Value->World->Prop}
theorem Run.call0E {f:FuncId} {fn:Func} {args:List Value} {Post:Value->List Item->ax->Prop}
  (hf:P.funcs[f]?=some fn) (hn:(fn.name == "runtime.NumGoroutine" || fn.body.isNone)=false) (h:Inv w0 X L S w) (hc:Tri P f args [] S Post)
  (hk:∀ v I' S' w',Post v I' S'->Ext w0.heap.size X S S'->Inv w0 X (L++I') S' w'->K v w'):Run P (ay (.func (.func f) #[] #[]) args) w K:=by
 refine Run.callP hf hn ((hc w h.nil.begin).mono ?_)
 rintro e w' ⟨v,I',S',rfl,hI,hE,hP⟩
 refine hk v I' S' w' hP ⟨hE.1,fun b o hb=>?_⟩ (Inv.step (A:=L) (B:=[]) (by simpa using h) hI hE.2)
 rcases hE.2 b o hb with h1|h1|h1
 ·exact .inl h1
 ·simp [bJ] at h1
 ·exact .inr (.inr (Nat.le_trans h.size h1))
end
theorem Ext.trans {n:Nat} {Y:List Nat} {S S' S'':ax} (h:Ext n Y S S') (h':Ext n Y S' S''):Ext n Y S S'':=by
 refine ⟨h.1.trans h'.1,fun b o hb=>?_⟩
 rcases h'.2 b o hb with h1|h1
 ·exact h.2 b o h1
 ·exact .inr h1
section
variable {P:Program} {w w0:World} {X:List Nat} {A I:List Item} {S:ax} {K:Value->World->Prop}
theorem Fh {f:FuncId} {args:List Value} {Post:Value->List Item->ax->Prop} (h:Inv w0 X (A++I) S w) (hc:Tri P f args I S Post) :
  Calls P f args.toArray w fun e w'=>∃ v I' S',e=.returned v/\Inv w0 X (A++I') S' w'/\Ext w0.heap.size X S S'/\Post v I' S':=by
 refine (hc w (h.sub (List.sublist_append_right A I)).begin).mono ?_
 rintro e w' ⟨v,I',S',rfl,hI,hE,hP⟩
 refine ⟨v,I',S',rfl,Inv.step h hI hE.2,⟨hE.1,fun b o hb=>?_⟩,hP⟩
 rcases hE.2 b o hb with h1|h1|h1
 ·exact .inl h1
 ·exact .inr (h.new b (by rw [cj]; exact List.mem_append_right _ h1))
 ·exact .inr (.inr (Nat.le_trans h.size h1))
theorem Run.callE {f:FuncId} {fn:Func} {args:List Value} {Post:Value->List Item->ax->Prop}
  (hf:P.funcs[f]?=some fn) (hn:(fn.name == "runtime.NumGoroutine" || fn.body.isNone)=false) (h:Inv w0 X (A++I) S w) (hc:Tri P f args I S Post)
  (hk:∀ v I' S' w',Post v I' S'->Ext w0.heap.size X S S'->Inv w0 X (A++I') S' w'->K v w'):Run P (ay (.func (.func f) #[] #[]) args) w K:=by
 refine Run.callP hf hn ((Fh h hc).mono ?_)
 rintro e w' ⟨v,I',S',rfl,hI,hE,hP⟩
 exact hk v I' S' w' hP hE hI
end
theorem Inv.lendExt {w0 w:World} {X:List Nat} {A:List Item} {S:ax} {v:Value} {e:TypeId} {k:Nat} {css:List (List Value)} (h:Inv w0 X (A++[be v e k css]) S w) :
  ∃ S',Ext w0.heap.size X S S'/\RowRd S' v e k css.length css.flatten/\Inv w0 X A S' w:=by
 obtain ⟨hl,ho⟩:=h.openRow
 rcases ho with ⟨rfl,h0⟩|⟨g,cap,cur,rfl,hnc,hcm,hcs,ht,hI⟩
 ·exact ⟨S,Ext.refl _ _ _,⟨hl,.inl ⟨rfl,h0⟩⟩,h.sub (List.sublist_append_left _ _)⟩
 ·obtain ⟨S',h1,h2,h3⟩:=Inv.pub1 (A:=A) hI
  exact ⟨S',h2,⟨hl,.inr ⟨g,cap,cur,rfl,h3,hnc,hcm,hcs,ht⟩⟩,h1⟩

end Go.Proofs.YtmnnpgdeecnfpaaGreat
