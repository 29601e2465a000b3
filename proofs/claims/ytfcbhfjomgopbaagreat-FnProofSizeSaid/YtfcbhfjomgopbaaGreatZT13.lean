/- Bytes, numbers, names and operators in texts: spec.l1Sign and its kin. (printed by gen_byt.py) -/
import Derived.Test.YtfcbhfjomgopbaaGreatZT12
import Derived.Test.YtfcbhfjomgopbaaGreatZT1F
import Derived.Test.YtfcbhfjomgopbaaGreatZT10
namespace Go.Proofs.YtfcbhfjomgopbaaGreat
open Go Go.RowKit
theorem i7 {s:Bs} {i:Nat} (h:i<s.length) (c:Nat):sgn s i c=decide (s[i].toNat=c):=by simp [sgn,List.getElem?_eq_getElem h]
theorem Ks {s:Bs} {i:Nat} (h:¬ i<s.length) (c:Nat):sgn s i c=false:=by simp [sgn,List.getElem?_eq_none (Nat.le_of_not_lt h)]
theorem kR {s:Bs} {i:Nat} (h:i<s.length) (a b:Nat):btw s i a b=(decide (a<=s[i].toNat) && decide (s[i].toNat<=b)):=by simp [btw,List.getElem?_eq_getElem h]
theorem HH {s:Bs} {i:Nat} (h:¬ i<s.length) (a b:Nat):btw s i a b=false:=by simp [btw,List.getElem?_eq_none (Nat.le_of_not_lt h)]
theorem xN {s:Bs} {i a b:Nat} (h:btw s i a b=true):i<s.length:=by
 rcases Nat.lt_or_ge i s.length with h1|h1
 ·exact h1
 ·rw [HH (by omega)] at h; cases h
theorem gz {s:Bs} {i c:Nat} (h:sgn s i c=true):i<s.length:=by
 rcases Nat.lt_or_ge i s.length with h1|h1
 ·exact h1
 ·rw [Ks (by omega)] at h; cases h
section
attribute [local irreducible] Run CondV ag aO
theorem cz (s:Bs) (i c:Nat) (S:al):Pure Tryz.prog Gm [.string (st s),.int .i64 (i:Int),.int .u8 (c:Int)] S (.bool (sgn s i c)):=by
 intro w hI
 refine yb ?_
 unfold vh;dsimp only
 refine kU (by omega) ?_
 repeat (first|refine ad ?_|refine af (by decide) ?_|refine ae ?_|refine ak ?_|refine aj ?_)
 refine eN bl ?_
 by_cases h:i<s.length
 ·refine xy (by omega) ?_
  repeat (first|refine ad ?_|refine af (by decide) ?_|refine ae ?_|refine ak ?_|refine aj ?_)
  refine dZ bl h ?_
  refine bP ?_
  repeat (first|refine ad ?_|refine af (by decide) ?_|refine ae ?_|refine ak ?_|refine aj ?_)
  refine done hI ?_
  rw [i7 h]
  congr 1
  rw [decide_eq_decide]
  omega
 ·refine ey (by omega) ?_
  repeat (first|refine ad ?_|refine af (by decide) ?_|refine ae ?_|refine ak ?_|refine aj ?_)
  exact done hI (by rw [Ks h])
theorem fR (s:Bs) (i:Nat) (S:al):Pure Tryz.prog Fe [.string (st s),.int .i64 (i:Int)] S (.bool (dig s i)):=by
 intro w hI
 refine wB ?_
 unfold p8;dsimp only
 refine kU (by omega) ?_
 repeat (first|refine ad ?_|refine af (by decide) ?_|refine ae ?_|refine ak ?_|refine aj ?_)
 refine eN bl ?_
 by_cases h:i<s.length
 ·refine xy (by omega) ?_
  repeat (first|refine ad ?_|refine af (by decide) ?_|refine ae ?_|refine ak ?_|refine aj ?_)
  refine dZ bl h ?_
  rw [dig,kR h]
  by_cases h2:48<=s[i].toNat
  ·refine kU (by omega) ?_
   repeat (first|refine ad ?_|refine af (by decide) ?_|refine ae ?_|refine ak ?_|refine aj ?_)
   refine dZ bl h ?_
   refine fi ?_
   repeat (first|refine ad ?_|refine af (by decide) ?_|refine ae ?_|refine ak ?_|refine aj ?_)
   refine done hI ?_
   rw [decide_eq_true h2,Bool.true_and]
   congr 1
   rw [decide_eq_decide]
   omega
  ·refine tg (by omega) ?_
   repeat (first|refine ad ?_|refine af (by decide) ?_|refine ae ?_|refine ak ?_|refine aj ?_)
   exact done hI (by rw [decide_eq_false h2,Bool.false_and])
 ·refine ey (by omega) ?_
  repeat (first|refine ad ?_|refine af (by decide) ?_|refine ae ?_|refine ak ?_|refine aj ?_)
  exact done hI (by rw [dig,HH h])
theorem lB (s:Bs) (i:Nat) (S:al):Pure Tryz.prog E6 [.string (st s),.int .i64 (i:Int)] S (.bool (sml s i)):=by
 intro w hI
 refine vN ?_
 unfold si;dsimp only
 refine kU (by omega) ?_
 repeat (first|refine ad ?_|refine af (by decide) ?_|refine ae ?_|refine ak ?_|refine aj ?_)
 refine eN bl ?_
 by_cases h:i<s.length
 ·refine xy (by omega) ?_
  repeat (first|refine ad ?_|refine af (by decide) ?_|refine ae ?_|refine ak ?_|refine aj ?_)
  refine dZ bl h ?_
  rw [sml,kR h]
  by_cases h2:97<=s[i].toNat
  ·refine kU (by omega) ?_
   repeat (first|refine ad ?_|refine af (by decide) ?_|refine ae ?_|refine ak ?_|refine aj ?_)
   refine dZ bl h ?_
   refine fi ?_
   repeat (first|refine ad ?_|refine af (by decide) ?_|refine ae ?_|refine ak ?_|refine aj ?_)
   refine done hI ?_
   rw [decide_eq_true h2,Bool.true_and]
   congr 1
   rw [decide_eq_decide]
   omega
  ·refine tg (by omega) ?_
   repeat (first|refine ad ?_|refine af (by decide) ?_|refine ae ?_|refine ak ?_|refine aj ?_)
   exact done hI (by rw [decide_eq_false h2,Bool.false_and])
 ·refine ey (by omega) ?_
  repeat (first|refine ad ?_|refine af (by decide) ?_|refine ae ?_|refine ak ?_|refine aj ?_)
  exact done hI (by rw [sml,HH h])
end
theorem Ih {s:Bs} {i:Nat} (h:i<s.length):dig s i=true↔48<=s[i].toNat/\s[i].toNat<=57:=by
 rw [dig,kR h,Bool.and_eq_true,decide_eq_true_eq,decide_eq_true_eq]
theorem Jz {d:Bs} {j:Nat} (h:j<d.length) (m:Nat):zS (d.drop j) m=zS (d.drop (j+1)) (m * 10+(d[j].toNat - 48)):=by
 rw [List.drop_eq_getElem_cons h,zS]
section
attribute [local irreducible] Run CondV ag aO
theorem C1 (d:Bs) (hd:∀ i,i<d.length->dig d i=true) (h0:0<d.length) (h4:d.length<=4) (hz:¬ (sgn d 0 48=true/\1<d.length)) (S:al) :
  Pure Tryz.prog HX [.string (st d)] S (.tuple #[.int .i64 ((zS d 0:Nat):Int),.bool true]):=by
 intro w hI
 refine xY ?_
 unfold ue;dsimp only
 have hd0:=(Ih h0).1 (hd 0 h0)
 refine ⟨fun t w'=>t=.bool false/\Inv w [] [] S w',?_,?_⟩
 ·refine eN bl ?_
  refine HO (by omega) ?_
  repeat (first|refine ad ?_|refine af (by decide) ?_|refine ae ?_|refine ak ?_|refine aj ?_)
  refine dZ (i:=0) bl h0 ?_
  refine ei (by omega) ?_
  repeat (first|refine ad ?_|refine af (by decide) ?_|refine ae ?_|refine ak ?_|refine aj ?_)
  exact ⟨rfl,hI⟩
 intro t4 _ _ _ _ _ _ _ _ w'
 rintro ⟨rfl,hI⟩
 refine ⟨fun t w'=>t=.string (st d)/\Inv w [] [] S w',?_,?_⟩
 ·exact aS (fun hb=>by cases hb) (fun _=>⟨rfl,hI⟩)
 intro t0 _ _ _ w'
 rintro ⟨rfl,hI⟩
 refine ⟨fun t w'=>t=.bool false/\Inv w [] [] S w',?_,?_⟩
 ·refine eN bl ?_
  refine ei (by omega) ?_
  repeat (first|refine ad ?_|refine af (by decide) ?_|refine ae ?_|refine ak ?_|refine aj ?_)
  refine eN bl ?_
  refine ik (by omega) ?_
  repeat (first|refine ad ?_|refine af (by decide) ?_|refine ae ?_|refine ak ?_|refine aj ?_)
  refine dZ (i:=0) bl h0 ?_
  by_cases hs:d[0].toNat=48
  ·refine fe (by omega) ?_
   repeat (first|refine ad ?_|refine af (by decide) ?_|refine ae ?_|refine ak ?_|refine aj ?_)
   refine eN bl ?_
   refine ik (by
    have:¬ 1<d.length:=fun h=>hz ⟨by rw [i7 h0,hs]; rfl,h⟩
    omega) ?_
   repeat (first|refine ad ?_|refine af (by decide) ?_|refine ae ?_|refine ak ?_|refine aj ?_)
   exact ⟨rfl,hI⟩
  ·refine ei (by omega) ?_
   repeat (first|refine ad ?_|refine af (by decide) ?_|refine ae ?_|refine ak ?_|refine aj ?_)
   exact ⟨rfl,hI⟩
 intro t38 _ _ _ _ _ _ _ _ _ _ _ _ _ _ _ _ _ _ _ _ w'
 rintro ⟨rfl,hI⟩
 refine aS (fun hb=>by cases hb) (fun _=>?_)
 refine ⟨fun i n w'=>∃ j m:Nat,j<=d.length/\i=.int .i64 j/\n=.int .i64 m/\m<10 ^ j/\zS (d.drop j) m=zS d 0/\Inv w [] [] S w',fun i _ _=>d.length - (intOf i).toNat,
  ⟨0,0,Nat.zero_le _,rfl,rfl,by simp,rfl,hI⟩,?_⟩
 intro t6 _ _ t5 _ _ _ _ _ _ _ _ _ _ _ _ _ _ _ _ _ _ _ _ _ _ _ _ w'
 rintro ⟨j,m,hj,rfl,rfl,hm,hval,hI⟩
 have hp:10 ^ j<=10 ^ 4:=Nat.pow_le_pow_right (by omega) (by omega)
 refine eN bl ?_
 refine cg ?_
 refine bz (fun hji=>?_) (fun hji=>?_)
 ·have hj':j<d.length:=by omega
  have hdj:=(Ih hj').1 (hd j hj')
  refine ⟨fun t w'=>t=.bool false/\Inv w [] [] S w',?_,?_⟩
  ·refine dZ bl hj' ?_
   refine ey (by omega) ?_
   repeat (first|refine ad ?_|refine af (by decide) ?_|refine ae ?_|refine ak ?_|refine aj ?_)
   refine dZ bl hj' ?_
   refine ik (by omega) ?_
   repeat (first|refine ad ?_|refine af (by decide) ?_|refine ae ?_|refine ak ?_|refine aj ?_)
   exact ⟨rfl,hI⟩
  intro t54 _ _ _ _ _ _ _ _ _ w'
  rintro ⟨rfl,hI⟩
  refine aS (fun hb=>by cases hb) (fun _=>?_)
  refine yp (by omega) ?_
  refine dZ bl hj' ?_
  refine Lc (c:=((d[j].toNat - 48:Nat):Int)) ?_ ?_
  ·rw [IntWalk.u8_in _ (by omega)]; omega
  refine mQ fq mX (IntWalk.i64_in _ (by omega)) ?_
  refine bT (by omega) ?_
  refine bT (by omega) ?_
  refine ⟨⟨j+1,m * 10+(d[j].toNat - 48),hj',rfl,?_,?_,?_,hI⟩,by simp [intOf]; omega⟩
  ·congr 1
  ·rw [Nat.pow_succ]; omega
  ·rw [<- hval,Jz hj']
 ·have:j=d.length:=by omega
  subst this
  rw [List.drop_length,zS] at hval
  refine ⟨fun t w'=>t=.int .i64 m/\Inv w [] [] S w',aS (fun hb=>by cases hb) (fun _=>⟨rfl,hI⟩),?_⟩
  intro t5 _ _ _ w'
  rintro ⟨rfl,hI⟩
  exact done hI (by rw [hval])
abbrev xB (k n:Int):Value:=.agg #[.int .i64 k,.int .i64 n,.string ⟨#[]⟩,.slice none 0 0]
theorem uR {w:World} {K:Value->World->Prop} {k n:Int} (hk:K (xB k n) w):Run Tryz.prog (bD ab [(0,.int .i64 k),(1,.int .i64 n)]) w K:=by
 refine Run.of (v:=xB k n) (w':=w) ?_ hk
 unfold bD
 rw [Sem.run_bind,run_build w ab _ #[.int .i64 k,.int .i64 n,.string ⟨#[]⟩,.slice none 0 0] (by kernel_rfl),Result.andThen_ok]
 rfl
theorem n7 (n:Int) (S:al):Pure Tryz.prog Jj [.int .i64 n] S (xB 1 n):=by
 intro w hI
 refine AC ?_
 unfold xX
 refine bi hI bH fun b w' hI=>?_
 refine uR ?_
 refine aG hI 0 rfl ai rfl rfl (by simp [Value.oneCell']) fun w' hI=>?_
 refine bE hI 0 ai rfl rfl ?_
 exact done hI rfl
theorem gY (n:Int) (S:al):Pure Tryz.prog Jv [.int .i64 n] S (xB 2 n):=by
 intro w hI
 refine Af ?_
 unfold xK
 refine bi hI bH fun b w' hI=>?_
 refine uR ?_
 refine aG hI 0 rfl ai rfl rfl (by simp [Value.oneCell']) fun w' hI=>?_
 refine bE hI 0 ai rfl rfl ?_
 exact done hI rfl
end
theorem Fw (s:Bs) (n e:Nat):nS s (n+1) e=if dig s e=true then nS s n (e+1) else e:=rfl
theorem CI (s:Bs):∀ (n e:Nat),e<=nS s n e/\nS s n e<=e+n
 | 0,e=>by simp [nS]
 | n+1,e=>by
  rw [nS]
  split
  ·have:=CI s n (e+1); omega
  ·omega
theorem rt (s:Bs):∀ (n e i:Nat),e<=i->i<nS s n e->dig s i=true
 | 0,e,i,h1,h2=>by simp [nS] at h2; omega
 | n+1,e,i,h1,h2=>by
  rw [nS] at h2
  split at h2
  ·rename_i h
   by_cases he:e=i
   ·subst he; exact h
   ·exact rt s n (e+1) i (by omega) h2
  ·omega
theorem Cm {s:Bs} {a b i:Nat} (hi:i<(cut s a b).length):∃ h:a+i<s.length,(cut s a b)[i]=s[a+i]/\a+i<b:=by
 have h1:(cut s a b).length=min b s.length - a:=by simp [cut]
 refine ⟨by omega,?_,by omega⟩
 simp [cut]
theorem BZ {s:Bs} {a b:Nat} (hb:b<=s.length):(cut s a b).length=b - a:=by simp [cut]; omega
theorem Mm {s:Bs} {a b i:Nat} (hi:i<(cut s a b).length):dig (cut s a b) i=dig s (a+i):=by
 obtain ⟨h,e,_⟩:=Cm hi
 rw [dig,dig,kR hi,kR h,e]
section
attribute [local irreducible] Run CondV ag aO
theorem yV {s:Bs} {i e:Nat} {t:T} (hn:Ku s i=some (t,e)) (hi:i<=100000) (S:al) :
  ∃ n:Int,inI n/\t=.mk 2 n emptyB []/\i<=e/\e<=i+5/\Pure Tryz.prog CX [.string (st s),.int .i64 (i:Int)] S (.tuple #[xB 2 n,.int .i64 (e:Int)]):=by
 unfold Ku at hn
 obtain ⟨fr,hfr⟩:∃ fr,fr=if sgn s i 45=true then i+1 else i:=⟨_,rfl⟩
 simp only [<- hfr] at hn
 obtain ⟨en,hen⟩:∃ en,en=nS s 4 fr:=⟨_,rfl⟩
 simp only [<- hen] at hn
 have hle:=CI s 4 fr
 rw [<- hen] at hle
 have hfi:i<=fr/\fr<=i+1:=by rw [hfr]; split <;> omega
 split at hn
 ·cases hn
 rename_i hc
 simp only [not_or] at hc
 obtain ⟨hc1,hc2,hc3,hc4⟩:=hc
 simp only [Option.some.injEq,Prod.mk.injEq] at hn
 obtain ⟨rfl,rfl⟩:=hn
 have hdig:∀ j,j<(cut s fr en).length->dig (cut s fr en) j=true:=fun j hj=>by
  obtain ⟨h1,h2,h3⟩:=Cm hj
  rw [Mm hj]
  exact rt s 4 fr _ (by omega) (by rw [<- hen]; exact h3)
 have hlen0:0<(cut s fr en).length:=by
  cases he:cut s fr en with
  | nil=>exact absurd he hc1
  | cons a l=>simp
 have hen2:fr<en:=by
  obtain ⟨_,_,h3⟩:=Cm hlen0
  omega
 have hens:en<=s.length:=by
  have:=rt s 4 fr (en - 1) (by omega) (by rw [<- hen]; omega)
  have:=xN this
  omega
 refine ⟨_,?_,rfl,by omega,by omega,?_⟩
 ·unfold inI; split <;> omega
 intro w hI
 refine tN ?_
 unfold oP;dsimp only
 refine bi hI bH fun b4 w' hI=>?_
 refine ⟨fun t w'=>t=.int .i64 (fr:Int)/\Inv w [] [.blk b4 (.cells #[.int .i64 0,.int .i64 0,.string ⟨#[]⟩,.slice none 0 0] ab)] S w',?_,?_⟩
 ·refine Run.callPure cF cG hI (cz s i 45 S) fun w' hI=>?_
  refine aS (fun hb=>?_) (fun hb=>?_)
  ·refine bT (by omega) ?_
   rw [if_pos hb] at hfr
   exact ⟨by rw [hfr]; congr 1,hI⟩
  ·rw [if_neg (by rw [hb]; decide)] at hfr
   exact ⟨by rw [hfr],hI⟩
 intro t6 _ _ _ _ _ w'
 rintro ⟨rfl,hI⟩
 refine ⟨fun t w'=>∃ j:Nat,t=.int .i64 (j:Int)/\fr<=j/\j<=fr+4/\nS s (fr+4 - j) j=en/\Inv w [] [.blk b4 (.cells #[.int .i64 0,.int .i64 0,.string ⟨#[]⟩,.slice none 0 0] ab)] S w',fun t _=>fr+4 - (intOf t).toNat,
  ⟨fr,rfl,Nat.le_refl _,by omega,by rw [Nat.add_sub_cancel_left]; exact hen.symm,hI⟩,?_⟩
 intro t6 _ _ _ _ _ _ _ _ _ _ _ w'
 rintro ⟨j,rfl,hj1,hj2,hj3,hI⟩
 refine ⟨fun t w'=>t=.bool (dig s j && decide (j<fr+4))/\Inv w [] [.blk b4 (.cells #[.int .i64 0,.int .i64 0,.string ⟨#[]⟩,.slice none 0 0] ab)] S w',?_,?_⟩
 ·refine Run.callPure ir iu hI (fR s j S) fun w' hI=>?_
  cases hdj:dig s j
  ·repeat (first|refine ad ?_|refine af (by decide) ?_|refine ae ?_|refine ak ?_|refine aj ?_)
   exact ⟨rfl,hI⟩
  ·repeat (first|refine ad ?_|refine af (by decide) ?_|refine ae ?_|refine ak ?_|refine aj ?_)
   refine bT (by omega) ?_
   refine cg ?_
   repeat (first|refine ad ?_|refine af (by decide) ?_|refine ae ?_|refine ak ?_|refine aj ?_)
   refine ⟨?_,hI⟩
   rw [Bool.true_and]
   congr 1
   rw [decide_eq_decide]
   omega
 intro t25 _ _ _ _ _ _ _ _ w'
 rintro ⟨rfl,hI⟩
 refine aS (fun hb=>?_) (fun hb=>?_)
 ·rw [Bool.and_eq_true,decide_eq_true_eq] at hb
  refine bT (by omega) ?_
  refine ⟨⟨j+1,rfl,by omega,by omega,?_,hI⟩,by simp [intOf]; omega⟩
  rw [<- hj3,show fr+4 - j=(fr+4 - (j+1))+1 by omega,Fw,if_pos hb.1]
 ·have hje:j=en:=by
   rw [<- hj3]
   by_cases h4:j=fr+4
   ·rw [h4,Nat.sub_self]; rfl
   ·rw [show fr+4 - j=(fr+4 - (j+1))+1 by omega,Fw,if_neg]
    intro hd
    rw [hd,Bool.true_and,decide_eq_false_iff_not] at hb
    omega
  subst hje
  refine yA bl (by omega) hens ?_
  refine Run.callPure Ft DP hI (C1 _ hdig hlen0 (by rw [BZ hens]; omega) hc2 S) fun w' hI=>?_
  obtain ⟨n,hn⟩:∃ n,n=zS (cut s fr j) 0:=⟨_,rfl⟩
  rw [<- hn]
  refine aB (v:=.int .i64 (n:Int)) rfl ?_
  refine aB (v:=.bool true) rfl ?_
  simp only [<- hn] at hc3 hc4 ⊢
  refine ⟨fun t w'=>t=.bool false/\Inv w [] [.blk b4 (.cells #[.int .i64 0,.int .i64 0,.string ⟨#[]⟩,.slice none 0 0] ab)] S w',?_,?_⟩
  ·refine cK ?_
   repeat (first|refine ad ?_|refine af (by decide) ?_|refine ae ?_|refine ak ?_|refine aj ?_)
   by_cases hfi':i<fr
   ·refine HO (by omega) ?_
    repeat (first|refine ad ?_|refine af (by decide) ?_|refine ae ?_|refine ak ?_|refine aj ?_)
    refine bP ?_
    have:¬ n=0:=fun h=>hc3 ⟨hfi',h⟩
    rw [decide_eq_false (by omega)]
    repeat (first|refine ad ?_|refine af (by decide) ?_|refine ae ?_|refine ak ?_|refine aj ?_)
    refine ik (by omega) ?_
    repeat (first|refine ad ?_|refine af (by decide) ?_|refine ae ?_|refine ak ?_|refine aj ?_)
    exact ⟨rfl,hI⟩
   ·refine ik (by omega) ?_
    repeat (first|refine ad ?_|refine af (by decide) ?_|refine ae ?_|refine ak ?_|refine aj ?_)
    refine ik (by omega) ?_
    repeat (first|refine ad ?_|refine af (by decide) ?_|refine ae ?_|refine ak ?_|refine aj ?_)
    exact ⟨rfl,hI⟩
  intro t50 _ _ _ _ _ _ _ _ _ _ _ _ _ _ w'
  rintro ⟨rfl,hI⟩
  refine aS (fun hb=>by cases hb) (fun _=>?_)
  refine ⟨fun t w'=>t=.int .i64 (if i<fr then -(n:Int) else n)/\Inv w [] [.blk b4 (.cells #[.int .i64 0,.int .i64 0,.string ⟨#[]⟩,.slice none 0 0] ab)] S w',?_,?_⟩
  ·refine di ?_
   refine bz (fun hb=>?_) (fun hb=>?_)
   ·refine MY (by omega) ?_
    exact ⟨by rw [if_pos (by omega)],hI⟩
   ·exact ⟨by rw [if_neg (by omega)],hI⟩
  intro t8 _ _ _ _ _ w'
  rintro ⟨rfl,hI⟩
  refine Run.callPure kQ k3 hI (gY _ S) fun w' hI=>?_
  refine aG hI 0 rfl ai rfl rfl (by simp [Value.oneCell']) fun w' hI=>?_
  refine bE hI 0 ai rfl rfl ?_
  exact done hI rfl
end
theorem RdSl.some1 {α:Type} {S:al} {k:Nat} {R:List Value->α->Prop} {v:Value} {xs:List α} (h:RdSl S k R v xs) (h0:0<xs.length):∃ b o cap,v=.slice (some ⟨b,o,none⟩) xs.length cap:=by
 obtain ⟨b,o,cap,c,E,fz,e,_,_⟩:=h.at_ h0
 exact ⟨b,o,cap,e⟩
theorem En (s:Bs) (n e:Nat):vE s (n+1) e=if sml s e=true then vE s n (e+1) else e:=rfl
def Iq (o:Option (Bs × Nat)):Value:=match o with
 | none=>.tuple #[.string ⟨#[]⟩,.int .i64 (-1)]
 | some (n,e)=>.tuple #[.string (st n),.int .i64 (e:Int)]
theorem GC (s:Bs) (i:Nat) {j:Nat} (h:j<signs.length) (b:Bs):gB s i (signs.drop j) b=gB s i (signs.drop (j+1)) (if decide (i+signs[j].size<=s.length)=true/\cut s i (i+signs[j].size)=bs signs[j]/\b.length<signs[j].size then bs signs[j] else b):=by
 rw [List.drop_eq_getElem_cons h,gB]
theorem ET:∀ x∈signs,x.size<=3:=by decide
section
attribute [local irreducible] Run CondV ag aO
theorem pZ {s:Bs} {i:Nat} (hi:i<s.length) (hs:s.length<=100000) (S:al):Pure Tryz.prog Gv [.string (st s),.int .i64 (i:Int)] S (Iq (qV s i)):=by
 intro w hI
 refine yr ?_
 unfold tU
 obtain ⟨E,hE⟩:∃ E,E=vE s (s.length - i) i:=⟨_,rfl⟩
 have hnm:qV s i=if i+6<E then none else if i<E then some (cut s i E,E) else if gB s i signs []=[] then none else some (gB s i signs [],i+(gB s i signs []).length):=by
  rw [qV,<- hE]
 refine ⟨fun t w'=>∃ e:Nat,t=.int .i64 (e:Int)/\i<=e/\e<=s.length/\vE s (s.length - e) e=E/\Inv w [] [] S w',fun t _=>s.length - (intOf t).toNat,⟨i,rfl,Nat.le_refl _,by omega,hE.symm,hI⟩,?_⟩
 intro t6 _ _ _ _ _ w'
 rintro ⟨e,rfl,he1,he2,he3,hI⟩
 refine Run.callPure qP qH hI (lB s e S) fun w' hI=>?_
 refine aS (fun hb=>?_) (fun hb=>?_)
 ·have hlt:=xN hb
  refine bT (by omega) ?_
  refine ⟨⟨e+1,rfl,by omega,by omega,?_,hI⟩,by simp [intOf]; omega⟩
  rw [<- he3,show s.length - e=(s.length - (e+1))+1 by omega,En,if_pos hb]
 have heE:e=E:=by
  rw [<- he3]
  by_cases h:e=s.length
  ·rw [h,Nat.sub_self,vE]
  ·rw [show s.length - e=(s.length - (e+1))+1 by omega,En,if_neg (by rw [hb]; decide)]
 subst heE
 refine bT (by omega) ?_
 refine di ?_
 refine bz (fun hb=>done hI (by rw [hnm,if_pos (by omega)]; rfl)) (fun hb=>?_)
 rw [if_neg (by omega)] at hnm
 refine di ?_
 refine bz (fun hb=>?_) (fun hb=>?_)
 ·refine yA bl (by omega) (by omega) ?_
  exact done hI (by rw [hnm,if_pos (by omega)]; rfl)
 rw [if_neg (by omega)] at hnm
 refine Run.call0 qD qm hI (oy S) fun v I' S1 w'=>?_
 rintro ⟨rfl,hle,hr⟩ _ hI
 obtain ⟨b,o,cap,rfl⟩:=RdSl.some1 hr (by decide)
 refine ⟨fun t u w'=>∃ (j:Nat) (best:Bs),j<=signs.length/\t=.int .i64 (j:Int)/\u=.string (st best)/\best.length<=3/\gB s i (signs.drop j) best=gB s i signs []/\Inv w [] [] S1 w',fun t _ _=>signs.length - (intOf t).toNat,
  ⟨0,[],Nat.zero_le _,rfl,rfl,by simp,rfl,hI.nil⟩,?_⟩
 intro t9 _ _ t7 _ _ _ _ t65 t64 t63 t62 t61 t60 t59 t58 t57 t56 t55 t54 t53 t52 t51 t50 t49 t48 t47 t46 t45 t44 t43 t42 t41 _ _ _ _ _ _ _ _ _ _ w'
 rintro ⟨j,best,hj0,rfl,rfl,hbl,hbest,hI⟩
 have h15:signs.length=15:=rfl
 refine bp hr ce ?_
 refine cg ?_
 refine bz (fun hji=>?_) (fun hji=>?_)
 ·have hj:j<signs.length:=by omega
  obtain ⟨x,hx⟩:∃ x,x=signs[j]:=⟨_,rfl⟩
  have hx3:x.size<=3:=by rw [hx]; exact ET _ (List.getElem_mem hj)
  obtain ⟨b',o',cap',c,E',fz,hsl,hS,hR⟩:=hr.at_ hj
  cases hsl
  have hcx:c[o+j * 1]?=some (.string x):=by rw [hx]; exact bh hR 0 _ rfl
  rw [GC s i hj,<- hx] at hbest
  refine ⟨fun u w'=>∃ best',u=.string (st best')/\best'.length<=3/\gB s i (signs.drop (j+1)) best'=gB s i signs []/\Inv w [] [] S1 w',?_,?_⟩
  ·refine be ce hj ?_
   refine dc bn ((hI.cellS hS).trans hcx) ?_
   refine fj bl ?_
   by_cases hlen:i+x.size<=s.length
   ·cases hq:decide (st (cut s i (i+x.size))=x)
    ·skip
     refine ⟨fun D Il EO zZ wJ xp wK wS u5 sy sJ tC uO pK jS sS tS uY pL lH sA nV rX lM ni lx w_=>(D 0=true->lx=.int .i64 (i:Int))/\(D 1=true->ni=.int .i64 (x.size:Int))/\(D 2=true->lM=.int .i64 ((i+x.size:Nat):Int))/\(D 3=true->rX=.string (st s))/\(D 4=true->nV=.int .i64 (s.length:Int))/\(D 5=true->sA=.bool true)/\(D 6=true->lH=.bool true)/\(D 7=true->pL=.string (st s))/\(D 8=true->uY=.int .i64 (i:Int))/\(D 9=true->tS=.int .i64 (i:Int))/\(D 10=true->sS=.int .i64 (x.size:Int))/\(D 11=true->jS=.int .i64 ((i+x.size:Nat):Int))/\(D 12=true->pK=.string (st (cut s i (i+x.size))))/\(D 13=true->uO=.slice (some ⟨b,o,none⟩) signs.length cap)/\(D 14=true->tC=.int .i64 (j:Int))/\(D 15=true->sJ=.pointer (some ⟨b,o+j * 1,none⟩))/\(D 16=true->sy=.string x)/\(D 17=true->u5=.bool false)/\(D 18=true->wS=.bool false)/\(D 19=true->wK=.bool false)/\(D 20=true->xp=undef)/\(D 21=true->wJ=undef)/\(D 22=true->zZ=undef)/\(D 23=true->EO=undef)/\(D 24=true->Il=.bool false)/\Inv w [] [] S1 w_,⟨ac,ac,ac,ac,ac,ac,ac,ac,ac,ac,ac,ac,ac,ac,ac,ac,ac,ac,ac,ac,ac,ac,ac,ac,ac,hI.draw⟩,⟨?_,?_,?_,?_,?_,?_,?_,?_,?_,?_,?_,?_,?_,?_,?_,?_,?_,?_,?_,?_,?_,?_,?_,?_,?_,trivial⟩,?_⟩
     all_goals (intro D bX; intros; rename_i Il EO zZ wJ xp wK wS u5 sy sJ tC uO pK jS sS tS uY pL lH sA nV rX lM ni lx w_ hA_; obtain ⟨ax,ay,az,aA,aF,aH,aE,aM,aN,aR,aq,ar,aD,aP,aQ,aT,aU,aV,aZ,bg,bk,bt,bL,bK,bN,hI⟩:=hA_)
     ·exact ⟨fun _=>rfl,ay,az,aA,aF,aH,aE,aM,aN,aR,aq,ar,aD,aP,aQ,aT,aU,aV,aZ,bg,bk,bt,bL,bK,bN,hI⟩
     ·exact ⟨ax,fun _=>rfl,az,aA,aF,aH,aE,aM,aN,aR,aq,ar,aD,aP,aQ,aT,aU,aV,aZ,bg,bk,bt,bL,bK,bN,hI⟩
     ·obtain rfl:=ax ‹_›
      obtain rfl:=ay ‹_›
      refine bT (by omega) ?_
      exact ⟨ax,ay,fun _=>rfl,aA,aF,aH,aE,aM,aN,aR,aq,ar,aD,aP,aQ,aT,aU,aV,aZ,bg,bk,bt,bL,bK,bN,hI⟩
     ·exact ⟨ax,ay,az,fun _=>rfl,aF,aH,aE,aM,aN,aR,aq,ar,aD,aP,aQ,aT,aU,aV,aZ,bg,bk,bt,bL,bK,bN,hI⟩
     ·obtain rfl:=aA ‹_›
      refine eN bl ?_
      exact ⟨ax,ay,az,aA,fun _=>rfl,aH,aE,aM,aN,aR,aq,ar,aD,aP,aQ,aT,aU,aV,aZ,bg,bk,bt,bL,bK,bN,hI⟩
     ·obtain rfl:=az ‹_›
      obtain rfl:=aF ‹_›
      refine Db (by omega) ?_
      exact ⟨ax,ay,az,aA,aF,fun _=>rfl,aE,aM,aN,aR,aq,ar,aD,aP,aQ,aT,aU,aV,aZ,bg,bk,bt,bL,bK,bN,hI⟩
     ·obtain rfl:=aH ‹_›
      exact ⟨ax,ay,az,aA,aF,aH,fun _=>rfl,aM,aN,aR,aq,ar,aD,aP,aQ,aT,aU,aV,aZ,bg,bk,bt,bL,bK,bN,hI⟩
     ·obtain rfl:=aE ‹_›
      refine ad ?_
      exact ⟨ax,ay,az,aA,aF,aH,aE,fun _=>rfl,aN,aR,aq,ar,aD,aP,aQ,aT,aU,aV,aZ,bg,bk,bt,bL,bK,bN,hI⟩
     ·obtain rfl:=aE ‹_›
      refine ad ?_
      exact ⟨ax,ay,az,aA,aF,aH,aE,aM,fun _=>rfl,aR,aq,ar,aD,aP,aQ,aT,aU,aV,aZ,bg,bk,bt,bL,bK,bN,hI⟩
     ·obtain rfl:=aE ‹_›
      refine ad ?_
      exact ⟨ax,ay,az,aA,aF,aH,aE,aM,aN,fun _=>rfl,aq,ar,aD,aP,aQ,aT,aU,aV,aZ,bg,bk,bt,bL,bK,bN,hI⟩
     ·obtain rfl:=aE ‹_›
      refine ad ?_
      exact ⟨ax,ay,az,aA,aF,aH,aE,aM,aN,aR,fun _=>rfl,ar,aD,aP,aQ,aT,aU,aV,aZ,bg,bk,bt,bL,bK,bN,hI⟩
     ·obtain rfl:=aR ‹_›
      obtain rfl:=aq ‹_›
      obtain rfl:=aE ‹_›
      refine ad ?_; refine bT (by omega) ?_
      exact ⟨ax,ay,az,aA,aF,aH,aE,aM,aN,aR,aq,fun _=>rfl,aD,aP,aQ,aT,aU,aV,aZ,bg,bk,bt,bL,bK,bN,hI⟩
     ·obtain rfl:=aM ‹_›
      obtain rfl:=aN ‹_›
      obtain rfl:=ar ‹_›
      obtain rfl:=aE ‹_›
      refine ad ?_; refine yA bl (by omega) (by omega) ?_
      exact ⟨ax,ay,az,aA,aF,aH,aE,aM,aN,aR,aq,ar,fun _=>rfl,aP,aQ,aT,aU,aV,aZ,bg,bk,bt,bL,bK,bN,hI⟩
     ·obtain rfl:=aE ‹_›
      refine ad ?_
      exact ⟨ax,ay,az,aA,aF,aH,aE,aM,aN,aR,aq,ar,aD,fun _=>rfl,aQ,aT,aU,aV,aZ,bg,bk,bt,bL,bK,bN,hI⟩
     ·obtain rfl:=aE ‹_›
      refine ad ?_
      exact ⟨ax,ay,az,aA,aF,aH,aE,aM,aN,aR,aq,ar,aD,aP,fun _=>rfl,aT,aU,aV,aZ,bg,bk,bt,bL,bK,bN,hI⟩
     ·obtain rfl:=aP ‹_›
      obtain rfl:=aQ ‹_›
      obtain rfl:=aE ‹_›
      refine ad ?_; refine be ce hj ?_
      exact ⟨ax,ay,az,aA,aF,aH,aE,aM,aN,aR,aq,ar,aD,aP,aQ,fun _=>rfl,aU,aV,aZ,bg,bk,bt,bL,bK,bN,hI⟩
     ·obtain rfl:=aT ‹_›
      obtain rfl:=aE ‹_›
      refine ad ?_; refine dc bn ((hI.cellS hS).trans hcx) ?_
      exact ⟨ax,ay,az,aA,aF,aH,aE,aM,aN,aR,aq,ar,aD,aP,aQ,aT,fun _=>rfl,aV,aZ,bg,bk,bt,bL,bK,bN,hI⟩
     ·obtain rfl:=aD ‹_›
      obtain rfl:=aU ‹_›
      obtain rfl:=aE ‹_›
      refine ad ?_; refine bJ ?_; rw [hq]
      exact ⟨ax,ay,az,aA,aF,aH,aE,aM,aN,aR,aq,ar,aD,aP,aQ,aT,aU,fun _=>rfl,aZ,bg,bk,bt,bL,bK,bN,hI⟩
     ·obtain rfl:=aE ‹_›
      obtain rfl:=aV ‹_›
      refine ak ?_
      exact ⟨ax,ay,az,aA,aF,aH,aE,aM,aN,aR,aq,ar,aD,aP,aQ,aT,aU,aV,fun _=>rfl,bg,bk,bt,bL,bK,bN,hI⟩
     ·obtain rfl:=aZ ‹_›
      exact ⟨ax,ay,az,aA,aF,aH,aE,aM,aN,aR,aq,ar,aD,aP,aQ,aT,aU,aV,aZ,fun _=>rfl,bk,bt,bL,bK,bN,hI⟩
     ·obtain rfl:=bg ‹_›
      refine af (c:=false) (b:=true) (by decide) ?_
      exact ⟨ax,ay,az,aA,aF,aH,aE,aM,aN,aR,aq,ar,aD,aP,aQ,aT,aU,aV,aZ,bg,fun _=>rfl,bt,bL,bK,bN,hI⟩
     ·obtain rfl:=bg ‹_›
      refine af (c:=false) (b:=true) (by decide) ?_
      exact ⟨ax,ay,az,aA,aF,aH,aE,aM,aN,aR,aq,ar,aD,aP,aQ,aT,aU,aV,aZ,bg,bk,fun _=>rfl,bL,bK,bN,hI⟩
     ·obtain rfl:=bt ‹_›
      obtain rfl:=bg ‹_›
      refine af (c:=false) (b:=true) (by decide) ?_
      exact ⟨ax,ay,az,aA,aF,aH,aE,aM,aN,aR,aq,ar,aD,aP,aQ,aT,aU,aV,aZ,bg,bk,bt,fun _=>rfl,bK,bN,hI⟩
     ·obtain rfl:=bk ‹_›
      obtain rfl:=bL ‹_›
      obtain rfl:=bg ‹_›
      refine af (c:=false) (b:=true) (by decide) ?_
      exact ⟨ax,ay,az,aA,aF,aH,aE,aM,aN,aR,aq,ar,aD,aP,aQ,aT,aU,aV,aZ,bg,bk,bt,bL,fun _=>rfl,bN,hI⟩
     ·obtain rfl:=bg ‹_›
      obtain rfl:=bK ‹_›
      refine aj ?_
      exact ⟨ax,ay,az,aA,aF,aH,aE,aM,aN,aR,aq,ar,aD,aP,aQ,aT,aU,aV,aZ,bg,bk,bt,bL,bK,fun _=>rfl,hI⟩
     obtain rfl:=bN ‹_›
     obtain rfl:=bK ‹_›
     obtain rfl:=bL ‹_›
     obtain rfl:=bt ‹_›
     obtain rfl:=bk ‹_›
     obtain rfl:=bg ‹_›
     obtain rfl:=aZ ‹_›
     obtain rfl:=aV ‹_›
     obtain rfl:=aU ‹_›
     obtain rfl:=aT ‹_›
     obtain rfl:=aQ ‹_›
     obtain rfl:=aP ‹_›
     obtain rfl:=aD ‹_›
     obtain rfl:=ar ‹_›
     obtain rfl:=aq ‹_›
     obtain rfl:=aR ‹_›
     obtain rfl:=aN ‹_›
     obtain rfl:=aM ‹_›
     obtain rfl:=aE ‹_›
     obtain rfl:=aH ‹_›
     obtain rfl:=aF ‹_›
     obtain rfl:=aA ‹_›
     obtain rfl:=az ‹_›
     obtain rfl:=ay ‹_›
     obtain rfl:=ax ‹_›
     clear ax ay az aA aF aH aE aM aN aR aq ar aD aP aQ aT aU aV aZ bg bk bt bL bK bN
     refine aS (fun hb=>by cases hb) (fun _=>?_)
     refine ⟨best,rfl,hbl,?_,hI⟩
     rw [if_neg] at hbest
     ·exact hbest
     ·rintro ⟨_,h2,_⟩
      rw [decide_eq_false_iff_not] at hq
      exact hq (by rw [h2])
    ·rw [decide_eq_true_eq] at hq
     have hq':=hq
     have hq:decide (st (cut s i (i+x.size))=x)=true:=decide_eq_true hq'
     skip
     refine ⟨fun D Il EO zZ wJ xp wK wS u5 sy sJ tC uO pK jS sS tS uY pL lH sA nV rX lM ni lx w_=>(D 0=true->lx=.int .i64 (i:Int))/\(D 1=true->ni=.int .i64 (x.size:Int))/\(D 2=true->lM=.int .i64 ((i+x.size:Nat):Int))/\(D 3=true->rX=.string (st s))/\(D 4=true->nV=.int .i64 (s.length:Int))/\(D 5=true->sA=.bool true)/\(D 6=true->lH=.bool true)/\(D 7=true->pL=.string (st s))/\(D 8=true->uY=.int .i64 (i:Int))/\(D 9=true->tS=.int .i64 (i:Int))/\(D 10=true->sS=.int .i64 (x.size:Int))/\(D 11=true->jS=.int .i64 ((i+x.size:Nat):Int))/\(D 12=true->pK=.string (st (cut s i (i+x.size))))/\(D 13=true->uO=.slice (some ⟨b,o,none⟩) signs.length cap)/\(D 14=true->tC=.int .i64 (j:Int))/\(D 15=true->sJ=.pointer (some ⟨b,o+j * 1,none⟩))/\(D 16=true->sy=.string x)/\(D 17=true->u5=.bool true)/\(D 18=true->wS=.bool true)/\(D 19=true->wK=.bool true)/\(D 20=true->xp=.int .i64 (x.size:Int))/\(D 21=true->wJ=.string (st best))/\(D 22=true->zZ=.int .i64 (best.length:Int))/\(D 23=true->EO=.bool (decide ((best.length:Int)<(x.size:Int))))/\(D 24=true->Il=.bool (decide ((best.length:Int)<(x.size:Int))))/\Inv w [] [] S1 w_,⟨ac,ac,ac,ac,ac,ac,ac,ac,ac,ac,ac,ac,ac,ac,ac,ac,ac,ac,ac,ac,ac,ac,ac,ac,ac,hI.draw⟩,⟨?_,?_,?_,?_,?_,?_,?_,?_,?_,?_,?_,?_,?_,?_,?_,?_,?_,?_,?_,?_,?_,?_,?_,?_,?_,trivial⟩,?_⟩
     all_goals (intro D bX; intros; rename_i Il EO zZ wJ xp wK wS u5 sy sJ tC uO pK jS sS tS uY pL lH sA nV rX lM ni lx w_ hA_; obtain ⟨ax,ay,az,aA,aF,aH,aE,aM,aN,aR,aq,ar,aD,aP,aQ,aT,aU,aV,aZ,bg,bk,bt,bL,bK,bN,hI⟩:=hA_)
     ·exact ⟨fun _=>rfl,ay,az,aA,aF,aH,aE,aM,aN,aR,aq,ar,aD,aP,aQ,aT,aU,aV,aZ,bg,bk,bt,bL,bK,bN,hI⟩
     ·exact ⟨ax,fun _=>rfl,az,aA,aF,aH,aE,aM,aN,aR,aq,ar,aD,aP,aQ,aT,aU,aV,aZ,bg,bk,bt,bL,bK,bN,hI⟩
     ·obtain rfl:=ax ‹_›
      obtain rfl:=ay ‹_›
      refine bT (by omega) ?_
      exact ⟨ax,ay,fun _=>rfl,aA,aF,aH,aE,aM,aN,aR,aq,ar,aD,aP,aQ,aT,aU,aV,aZ,bg,bk,bt,bL,bK,bN,hI⟩
     ·exact ⟨ax,ay,az,fun _=>rfl,aF,aH,aE,aM,aN,aR,aq,ar,aD,aP,aQ,aT,aU,aV,aZ,bg,bk,bt,bL,bK,bN,hI⟩
     ·obtain rfl:=aA ‹_›
      refine eN bl ?_
      exact ⟨ax,ay,az,aA,fun _=>rfl,aH,aE,aM,aN,aR,aq,ar,aD,aP,aQ,aT,aU,aV,aZ,bg,bk,bt,bL,bK,bN,hI⟩
     ·obtain rfl:=az ‹_›
      obtain rfl:=aF ‹_›
      refine Db (by omega) ?_
      exact ⟨ax,ay,az,aA,aF,fun _=>rfl,aE,aM,aN,aR,aq,ar,aD,aP,aQ,aT,aU,aV,aZ,bg,bk,bt,bL,bK,bN,hI⟩
     ·obtain rfl:=aH ‹_›
      exact ⟨ax,ay,az,aA,aF,aH,fun _=>rfl,aM,aN,aR,aq,ar,aD,aP,aQ,aT,aU,aV,aZ,bg,bk,bt,bL,bK,bN,hI⟩
     ·obtain rfl:=aE ‹_›
      refine ad ?_
      exact ⟨ax,ay,az,aA,aF,aH,aE,fun _=>rfl,aN,aR,aq,ar,aD,aP,aQ,aT,aU,aV,aZ,bg,bk,bt,bL,bK,bN,hI⟩
     ·obtain rfl:=aE ‹_›
      refine ad ?_
      exact ⟨ax,ay,az,aA,aF,aH,aE,aM,fun _=>rfl,aR,aq,ar,aD,aP,aQ,aT,aU,aV,aZ,bg,bk,bt,bL,bK,bN,hI⟩
     ·obtain rfl:=aE ‹_›
      refine ad ?_
      exact ⟨ax,ay,az,aA,aF,aH,aE,aM,aN,fun _=>rfl,aq,ar,aD,aP,aQ,aT,aU,aV,aZ,bg,bk,bt,bL,bK,bN,hI⟩
     ·obtain rfl:=aE ‹_›
      refine ad ?_
      exact ⟨ax,ay,az,aA,aF,aH,aE,aM,aN,aR,fun _=>rfl,ar,aD,aP,aQ,aT,aU,aV,aZ,bg,bk,bt,bL,bK,bN,hI⟩
     ·obtain rfl:=aR ‹_›
      obtain rfl:=aq ‹_›
      obtain rfl:=aE ‹_›
      refine ad ?_; refine bT (by omega) ?_
      exact ⟨ax,ay,az,aA,aF,aH,aE,aM,aN,aR,aq,fun _=>rfl,aD,aP,aQ,aT,aU,aV,aZ,bg,bk,bt,bL,bK,bN,hI⟩
     ·obtain rfl:=aM ‹_›
      obtain rfl:=aN ‹_›
      obtain rfl:=ar ‹_›
      obtain rfl:=aE ‹_›
      refine ad ?_; refine yA bl (by omega) (by omega) ?_
      exact ⟨ax,ay,az,aA,aF,aH,aE,aM,aN,aR,aq,ar,fun _=>rfl,aP,aQ,aT,aU,aV,aZ,bg,bk,bt,bL,bK,bN,hI⟩
     ·obtain rfl:=aE ‹_›
      refine ad ?_
      exact ⟨ax,ay,az,aA,aF,aH,aE,aM,aN,aR,aq,ar,aD,fun _=>rfl,aQ,aT,aU,aV,aZ,bg,bk,bt,bL,bK,bN,hI⟩
     ·obtain rfl:=aE ‹_›
      refine ad ?_
      exact ⟨ax,ay,az,aA,aF,aH,aE,aM,aN,aR,aq,ar,aD,aP,fun _=>rfl,aT,aU,aV,aZ,bg,bk,bt,bL,bK,bN,hI⟩
     ·obtain rfl:=aP ‹_›
      obtain rfl:=aQ ‹_›
      obtain rfl:=aE ‹_›
      refine ad ?_; refine be ce hj ?_
      exact ⟨ax,ay,az,aA,aF,aH,aE,aM,aN,aR,aq,ar,aD,aP,aQ,fun _=>rfl,aU,aV,aZ,bg,bk,bt,bL,bK,bN,hI⟩
     ·obtain rfl:=aT ‹_›
      obtain rfl:=aE ‹_›
      refine ad ?_; refine dc bn ((hI.cellS hS).trans hcx) ?_
      exact ⟨ax,ay,az,aA,aF,aH,aE,aM,aN,aR,aq,ar,aD,aP,aQ,aT,fun _=>rfl,aV,aZ,bg,bk,bt,bL,bK,bN,hI⟩
     ·obtain rfl:=aD ‹_›
      obtain rfl:=aU ‹_›
      obtain rfl:=aE ‹_›
      refine ad ?_; refine bJ ?_; rw [hq]
      exact ⟨ax,ay,az,aA,aF,aH,aE,aM,aN,aR,aq,ar,aD,aP,aQ,aT,aU,fun _=>rfl,aZ,bg,bk,bt,bL,bK,bN,hI⟩
     ·obtain rfl:=aE ‹_›
      obtain rfl:=aV ‹_›
      refine ak ?_
      exact ⟨ax,ay,az,aA,aF,aH,aE,aM,aN,aR,aq,ar,aD,aP,aQ,aT,aU,aV,fun _=>rfl,bg,bk,bt,bL,bK,bN,hI⟩
     ·obtain rfl:=aZ ‹_›
      exact ⟨ax,ay,az,aA,aF,aH,aE,aM,aN,aR,aq,ar,aD,aP,aQ,aT,aU,aV,aZ,fun _=>rfl,bk,bt,bL,bK,bN,hI⟩
     ·obtain rfl:=bg ‹_›
      refine ad ?_
      exact ⟨ax,ay,az,aA,aF,aH,aE,aM,aN,aR,aq,ar,aD,aP,aQ,aT,aU,aV,aZ,bg,fun _=>rfl,bt,bL,bK,bN,hI⟩
     ·obtain rfl:=bg ‹_›
      refine ad ?_
      exact ⟨ax,ay,az,aA,aF,aH,aE,aM,aN,aR,aq,ar,aD,aP,aQ,aT,aU,aV,aZ,bg,bk,fun _=>rfl,bL,bK,bN,hI⟩
     ·obtain rfl:=bt ‹_›
      obtain rfl:=bg ‹_›
      refine ad ?_; refine eN bl ?_
      exact ⟨ax,ay,az,aA,aF,aH,aE,aM,aN,aR,aq,ar,aD,aP,aQ,aT,aU,aV,aZ,bg,bk,bt,fun _=>rfl,bK,bN,hI⟩
     ·obtain rfl:=bk ‹_›
      obtain rfl:=bL ‹_›
      obtain rfl:=bg ‹_›
      refine ad ?_; refine di ?_
      exact ⟨ax,ay,az,aA,aF,aH,aE,aM,aN,aR,aq,ar,aD,aP,aQ,aT,aU,aV,aZ,bg,bk,bt,bL,fun _=>rfl,bN,hI⟩
     ·obtain rfl:=bg ‹_›
      obtain rfl:=bK ‹_›
      refine ak ?_
      exact ⟨ax,ay,az,aA,aF,aH,aE,aM,aN,aR,aq,ar,aD,aP,aQ,aT,aU,aV,aZ,bg,bk,bt,bL,bK,fun _=>rfl,hI⟩
     obtain rfl:=bN ‹_›
     obtain rfl:=bK ‹_›
     obtain rfl:=bL ‹_›
     obtain rfl:=bt ‹_›
     obtain rfl:=bk ‹_›
     obtain rfl:=bg ‹_›
     obtain rfl:=aZ ‹_›
     obtain rfl:=aV ‹_›
     obtain rfl:=aU ‹_›
     obtain rfl:=aT ‹_›
     obtain rfl:=aQ ‹_›
     obtain rfl:=aP ‹_›
     obtain rfl:=aD ‹_›
     obtain rfl:=ar ‹_›
     obtain rfl:=aq ‹_›
     obtain rfl:=aR ‹_›
     obtain rfl:=aN ‹_›
     obtain rfl:=aM ‹_›
     obtain rfl:=aE ‹_›
     obtain rfl:=aH ‹_›
     obtain rfl:=aF ‹_›
     obtain rfl:=aA ‹_›
     obtain rfl:=az ‹_›
     obtain rfl:=ay ‹_›
     obtain rfl:=ax ‹_›
     clear ax ay az aA aF aH aE aM aN aR aq ar aD aP aQ aT aU aV aZ bg bk bt bL bK bN
     have hcut:cut s i (i+x.size)=bs x:=by rw [<- AN (cut s i (i+x.size)),hq']
     refine bz (fun hb=>?_) (fun hb=>?_)
     ·refine be ce hj ?_
      refine dc bn ((hI.cellS hS).trans hcx) ?_
      refine ⟨bs x,rfl,by rw [<- hcut,BZ hlen]; omega,?_,hI⟩
      rw [if_pos ⟨decide_eq_true hlen,hcut,by omega⟩] at hbest
      exact hbest
     ·refine ⟨best,rfl,hbl,?_,hI⟩
      rw [if_neg] at hbest
      ·exact hbest
      ·rintro ⟨_,_,h3⟩
       omega
   ·skip
    refine ⟨fun D Il EO zZ wJ xp wK wS u5 sy sJ tC uO pK jS sS tS uY pL lH sA nV rX lM ni lx w_=>(D 0=true->lx=.int .i64 (i:Int))/\(D 1=true->ni=.int .i64 (x.size:Int))/\(D 2=true->lM=.int .i64 ((i+x.size:Nat):Int))/\(D 3=true->rX=.string (st s))/\(D 4=true->nV=.int .i64 (s.length:Int))/\(D 5=true->sA=.bool false)/\(D 6=true->lH=.bool false)/\(D 7=true->pL=undef)/\(D 8=true->uY=undef)/\(D 9=true->tS=undef)/\(D 10=true->sS=undef)/\(D 11=true->jS=undef)/\(D 12=true->pK=undef)/\(D 13=true->uO=undef)/\(D 14=true->tC=undef)/\(D 15=true->sJ=undef)/\(D 16=true->sy=undef)/\(D 17=true->u5=undef)/\(D 18=true->wS=.bool false)/\(D 19=true->wK=.bool false)/\(D 20=true->xp=undef)/\(D 21=true->wJ=undef)/\(D 22=true->zZ=undef)/\(D 23=true->EO=undef)/\(D 24=true->Il=.bool false)/\Inv w [] [] S1 w_,⟨ac,ac,ac,ac,ac,ac,ac,ac,ac,ac,ac,ac,ac,ac,ac,ac,ac,ac,ac,ac,ac,ac,ac,ac,ac,hI.draw⟩,⟨?_,?_,?_,?_,?_,?_,?_,?_,?_,?_,?_,?_,?_,?_,?_,?_,?_,?_,?_,?_,?_,?_,?_,?_,?_,trivial⟩,?_⟩
    all_goals (intro D bX; intros; rename_i Il EO zZ wJ xp wK wS u5 sy sJ tC uO pK jS sS tS uY pL lH sA nV rX lM ni lx w_ hA_; obtain ⟨ax,ay,az,aA,aF,aH,aE,aM,aN,aR,aq,ar,aD,aP,aQ,aT,aU,aV,aZ,bg,bk,bt,bL,bK,bN,hI⟩:=hA_)
    ·exact ⟨fun _=>rfl,ay,az,aA,aF,aH,aE,aM,aN,aR,aq,ar,aD,aP,aQ,aT,aU,aV,aZ,bg,bk,bt,bL,bK,bN,hI⟩
    ·exact ⟨ax,fun _=>rfl,az,aA,aF,aH,aE,aM,aN,aR,aq,ar,aD,aP,aQ,aT,aU,aV,aZ,bg,bk,bt,bL,bK,bN,hI⟩
    ·obtain rfl:=ax ‹_›
     obtain rfl:=ay ‹_›
     refine bT (by omega) ?_
     exact ⟨ax,ay,fun _=>rfl,aA,aF,aH,aE,aM,aN,aR,aq,ar,aD,aP,aQ,aT,aU,aV,aZ,bg,bk,bt,bL,bK,bN,hI⟩
    ·exact ⟨ax,ay,az,fun _=>rfl,aF,aH,aE,aM,aN,aR,aq,ar,aD,aP,aQ,aT,aU,aV,aZ,bg,bk,bt,bL,bK,bN,hI⟩
    ·obtain rfl:=aA ‹_›
     refine eN bl ?_
     exact ⟨ax,ay,az,aA,fun _=>rfl,aH,aE,aM,aN,aR,aq,ar,aD,aP,aQ,aT,aU,aV,aZ,bg,bk,bt,bL,bK,bN,hI⟩
    ·obtain rfl:=az ‹_›
     obtain rfl:=aF ‹_›
     refine Lo (by omega) ?_
     exact ⟨ax,ay,az,aA,aF,fun _=>rfl,aE,aM,aN,aR,aq,ar,aD,aP,aQ,aT,aU,aV,aZ,bg,bk,bt,bL,bK,bN,hI⟩
    ·obtain rfl:=aH ‹_›
     exact ⟨ax,ay,az,aA,aF,aH,fun _=>rfl,aM,aN,aR,aq,ar,aD,aP,aQ,aT,aU,aV,aZ,bg,bk,bt,bL,bK,bN,hI⟩
    ·obtain rfl:=aE ‹_›
     refine af (c:=false) (b:=true) (by decide) ?_
     exact ⟨ax,ay,az,aA,aF,aH,aE,fun _=>rfl,aN,aR,aq,ar,aD,aP,aQ,aT,aU,aV,aZ,bg,bk,bt,bL,bK,bN,hI⟩
    ·obtain rfl:=aE ‹_›
     refine af (c:=false) (b:=true) (by decide) ?_
     exact ⟨ax,ay,az,aA,aF,aH,aE,aM,fun _=>rfl,aR,aq,ar,aD,aP,aQ,aT,aU,aV,aZ,bg,bk,bt,bL,bK,bN,hI⟩
    ·obtain rfl:=aE ‹_›
     refine af (c:=false) (b:=true) (by decide) ?_
     exact ⟨ax,ay,az,aA,aF,aH,aE,aM,aN,fun _=>rfl,aq,ar,aD,aP,aQ,aT,aU,aV,aZ,bg,bk,bt,bL,bK,bN,hI⟩
    ·obtain rfl:=aE ‹_›
     refine af (c:=false) (b:=true) (by decide) ?_
     exact ⟨ax,ay,az,aA,aF,aH,aE,aM,aN,aR,fun _=>rfl,ar,aD,aP,aQ,aT,aU,aV,aZ,bg,bk,bt,bL,bK,bN,hI⟩
    ·obtain rfl:=aR ‹_›
     obtain rfl:=aq ‹_›
     obtain rfl:=aE ‹_›
     refine af (c:=false) (b:=true) (by decide) ?_
     exact ⟨ax,ay,az,aA,aF,aH,aE,aM,aN,aR,aq,fun _=>rfl,aD,aP,aQ,aT,aU,aV,aZ,bg,bk,bt,bL,bK,bN,hI⟩
    ·obtain rfl:=aM ‹_›
     obtain rfl:=aN ‹_›
     obtain rfl:=ar ‹_›
     obtain rfl:=aE ‹_›
     refine af (c:=false) (b:=true) (by decide) ?_
     exact ⟨ax,ay,az,aA,aF,aH,aE,aM,aN,aR,aq,ar,fun _=>rfl,aP,aQ,aT,aU,aV,aZ,bg,bk,bt,bL,bK,bN,hI⟩
    ·obtain rfl:=aE ‹_›
     refine af (c:=false) (b:=true) (by decide) ?_
     exact ⟨ax,ay,az,aA,aF,aH,aE,aM,aN,aR,aq,ar,aD,fun _=>rfl,aQ,aT,aU,aV,aZ,bg,bk,bt,bL,bK,bN,hI⟩
    ·obtain rfl:=aE ‹_›
     refine af (c:=false) (b:=true) (by decide) ?_
     exact ⟨ax,ay,az,aA,aF,aH,aE,aM,aN,aR,aq,ar,aD,aP,fun _=>rfl,aT,aU,aV,aZ,bg,bk,bt,bL,bK,bN,hI⟩
    ·obtain rfl:=aP ‹_›
     obtain rfl:=aQ ‹_›
     obtain rfl:=aE ‹_›
     refine af (c:=false) (b:=true) (by decide) ?_
     exact ⟨ax,ay,az,aA,aF,aH,aE,aM,aN,aR,aq,ar,aD,aP,aQ,fun _=>rfl,aU,aV,aZ,bg,bk,bt,bL,bK,bN,hI⟩
    ·obtain rfl:=aT ‹_›
     obtain rfl:=aE ‹_›
     refine af (c:=false) (b:=true) (by decide) ?_
     exact ⟨ax,ay,az,aA,aF,aH,aE,aM,aN,aR,aq,ar,aD,aP,aQ,aT,fun _=>rfl,aV,aZ,bg,bk,bt,bL,bK,bN,hI⟩
    ·obtain rfl:=aD ‹_›
     obtain rfl:=aU ‹_›
     obtain rfl:=aE ‹_›
     refine af (c:=false) (b:=true) (by decide) ?_
     exact ⟨ax,ay,az,aA,aF,aH,aE,aM,aN,aR,aq,ar,aD,aP,aQ,aT,aU,fun _=>rfl,aZ,bg,bk,bt,bL,bK,bN,hI⟩
    ·obtain rfl:=aE ‹_›
     obtain rfl:=aV ‹_›
     refine aj ?_
     exact ⟨ax,ay,az,aA,aF,aH,aE,aM,aN,aR,aq,ar,aD,aP,aQ,aT,aU,aV,fun _=>rfl,bg,bk,bt,bL,bK,bN,hI⟩
    ·obtain rfl:=aZ ‹_›
     exact ⟨ax,ay,az,aA,aF,aH,aE,aM,aN,aR,aq,ar,aD,aP,aQ,aT,aU,aV,aZ,fun _=>rfl,bk,bt,bL,bK,bN,hI⟩
    ·obtain rfl:=bg ‹_›
     refine af (c:=false) (b:=true) (by decide) ?_
     exact ⟨ax,ay,az,aA,aF,aH,aE,aM,aN,aR,aq,ar,aD,aP,aQ,aT,aU,aV,aZ,bg,fun _=>rfl,bt,bL,bK,bN,hI⟩
    ·obtain rfl:=bg ‹_›
     refine af (c:=false) (b:=true) (by decide) ?_
     exact ⟨ax,ay,az,aA,aF,aH,aE,aM,aN,aR,aq,ar,aD,aP,aQ,aT,aU,aV,aZ,bg,bk,fun _=>rfl,bL,bK,bN,hI⟩
    ·obtain rfl:=bt ‹_›
     obtain rfl:=bg ‹_›
     refine af (c:=false) (b:=true) (by decide) ?_
     exact ⟨ax,ay,az,aA,aF,aH,aE,aM,aN,aR,aq,ar,aD,aP,aQ,aT,aU,aV,aZ,bg,bk,bt,fun _=>rfl,bK,bN,hI⟩
    ·obtain rfl:=bk ‹_›
     obtain rfl:=bL ‹_›
     obtain rfl:=bg ‹_›
     refine af (c:=false) (b:=true) (by decide) ?_
     exact ⟨ax,ay,az,aA,aF,aH,aE,aM,aN,aR,aq,ar,aD,aP,aQ,aT,aU,aV,aZ,bg,bk,bt,bL,fun _=>rfl,bN,hI⟩
    ·obtain rfl:=bg ‹_›
     obtain rfl:=bK ‹_›
     refine aj ?_
     exact ⟨ax,ay,az,aA,aF,aH,aE,aM,aN,aR,aq,ar,aD,aP,aQ,aT,aU,aV,aZ,bg,bk,bt,bL,bK,fun _=>rfl,hI⟩
    obtain rfl:=bN ‹_›
    obtain rfl:=bK ‹_›
    obtain rfl:=bL ‹_›
    obtain rfl:=bt ‹_›
    obtain rfl:=bk ‹_›
    obtain rfl:=bg ‹_›
    obtain rfl:=aZ ‹_›
    obtain rfl:=aV ‹_›
    obtain rfl:=aU ‹_›
    obtain rfl:=aT ‹_›
    obtain rfl:=aQ ‹_›
    obtain rfl:=aP ‹_›
    obtain rfl:=aD ‹_›
    obtain rfl:=ar ‹_›
    obtain rfl:=aq ‹_›
    obtain rfl:=aR ‹_›
    obtain rfl:=aN ‹_›
    obtain rfl:=aM ‹_›
    obtain rfl:=aE ‹_›
    obtain rfl:=aH ‹_›
    obtain rfl:=aF ‹_›
    obtain rfl:=aA ‹_›
    obtain rfl:=az ‹_›
    obtain rfl:=ay ‹_›
    obtain rfl:=ax ‹_›
    clear ax ay az aA aF aH aE aM aN aR aq ar aD aP aQ aT aU aV aZ bg bk bt bL bK bN
    refine aS (fun hb=>by cases hb) (fun _=>?_)
    refine ⟨best,rfl,hbl,?_,hI⟩
    rw [if_neg] at hbest
    ·exact hbest
    ·rintro ⟨h1,_⟩
     rw [decide_eq_true_eq] at h1
     exact hlen h1
  intro t7 _ _ _ _ _ _ _ _ _ _ _ _ _ _ _ _ _ _ _ _ _ _ _ _ _ _ _ _ _ _ _ _ _ _ _ w'
  rintro ⟨best',rfl,hbl',hb',hI⟩
  refine bT (by omega) ?_
  exact ⟨⟨j+1,best',hj,rfl,rfl,hbl',hb',hI⟩,by simp [intOf]; omega⟩
 ·have:j=signs.length:=by omega
  subst this
  rw [List.drop_length,gB] at hbest
  rw [<- hbest] at hnm
  refine bJ ?_
  refine bz (fun hb=>?_) (fun hb=>?_)
  ·have:best=[]:=by rw [<- AN best,hb]
   exact u3 hI hle (by rw [hnm,if_pos this]; rfl)
  ·have:¬ best=[]:=fun h=>hb (by rw [h])
   refine eN bl ?_
   refine bT (by omega) ?_
   exact u3 hI hle (by rw [hnm,if_neg this]; rfl)
end
theorem tF (s:Bs) (i:Nat):∀ (l:List ByteArray) (b:Bs),(∀ x∈l,x.size<=3)->b.length<=3->i+b.length<=s.length->i+(gB s i l b).length<=s.length/\(gB s i l b).length<=3
 | [],b,_,h2,h3=>⟨h3,h2⟩
 | x::l,b,h1,h2,h3=>by
  rw [gB]
  have hx:(bs x).length=x.size:=Array.length_toList
  split
  ·rename_i h
   exact tF s i l _ (fun y hy=>h1 y (List.mem_cons_of_mem _ hy)) (by rw [hx]; exact h1 x (List.mem_cons_self ..)) (by rw [hx]; exact of_decide_eq_true h.1)
  ·exact tF s i l _ (fun y hy=>h1 y (List.mem_cons_of_mem _ hy)) h2 h3
theorem In (s:Bs):∀ (n e:Nat),e<=vE s n e/\vE s n e<=e+n
 | 0,e=>by simp [vE]
 | n+1,e=>by
  rw [vE]
  split
  ·have:=In s n (e+1); omega
  ·omega
theorem sr {s:Bs} {i:Nat} {n:Bs} {e:Nat} (hi:i<s.length) (h:qV s i=some (n,e)):i<e/\e<=s.length/\n.length<=6/\n≠[]:=by
 have hl:=In s (s.length - i) i
 have hb:=tF s i signs [] ET (by simp) (by simpa using Nat.le_of_lt hi)
 unfold qV at h
 simp only [] at h
 split at h
 ·cases h
 ·split at h
  ·simp only [Option.some.injEq,Prod.mk.injEq] at h
   obtain ⟨rfl,rfl⟩:=h
   rename_i h1 h2
   have hc:=BZ (s:=s) (a:=i) (b:=vE s (s.length - i) i) (by omega)
   refine ⟨h2,by omega,by omega,fun h=>?_⟩
   rw [h] at hc
   simp at hc
   omega
  ·split at h
   ·cases h
   ·simp only [Option.some.injEq,Prod.mk.injEq] at h
    obtain ⟨rfl,rfl⟩:=h
    rename_i h3
    have:0<(gB s i signs []).length:=by
     cases he:gB s i signs [] with
     | nil=>exact absurd he h3
     | cons a l=>simp
    exact ⟨by omega,by omega,by omega,h3⟩
def opV (o:Option (Bs × Nat)) (i:Nat):Value:=match o with
 | none=>.tuple #[.string ⟨#[]⟩,.int .i64 (i:Int)]
 | some (n,e)=>.tuple #[.string (st n),.int .i64 (e:Int)]
theorem Lb {s:Bs} {i:Nat} {n:Bs} {e:Nat} (h:opF s i=some (n,e)):i<e/\e<=s.length/\n.length<=6/\n≠[]:=by
 unfold opF at h
 obtain ⟨fr,hfr⟩:∃ fr,fr=if sgn s i 32=true then i+1 else i:=⟨_,rfl⟩
 simp only [<- hfr] at h
 have hfi:i<=fr:=by rw [hfr]; split <;> omega
 split at h
 ·cases h
 rename_i hlt
 split at h
 ·cases h
 rename_i nm nx hnm
 obtain ⟨h1,h2,h3,h4⟩:=sr (by omega) hnm
 split at h
 ·cases h
 rename_i hc
 simp only [not_or,not_and,Bool.not_eq_false] at hc
 simp only [Option.some.injEq,Prod.mk.injEq] at h
 obtain ⟨rfl,rfl⟩:=h
 refine ⟨by split <;> omega,?_,h3,h4⟩
 split
 ·rename_i hw
  have:=gz (hc.2.2 hw)
  omega
 ·exact h2
section
attribute [local irreducible] Run CondV ag aO
theorem Ie {s:Bs} {i:Nat} (hs:s.length<=100000) (hi:i<=s.length) (S:al):Pure Tryz.prog Lm [.string (st s),.int .i64 (i:Int)] S (opV (opF s i) i):=by
 intro w hI
 refine DB ?_
 unfold AW
 obtain ⟨fr,hfr⟩:∃ fr,fr=if sgn s i 32=true then i+1 else i:=⟨_,rfl⟩
 have hfi:i<=fr/\fr<=i+1:=by rw [hfr]; split <;> omega
 obtain ⟨r,hr⟩:∃ r,r=opF s i:=⟨_,rfl⟩
 rw [<- hr]
 unfold opF at hr
 simp only [<- hfr] at hr
 refine ⟨fun t w'=>t=.int .i64 (fr:Int)/\Inv w [] [] S w',?_,?_⟩
 ·refine Run.callPure cF cG hI (cz s i 32 S) fun w' hI=>?_
  refine aS (fun hb=>?_) (fun hb=>?_)
  ·refine bT (by omega) ?_
   rw [if_pos hb] at hfr
   exact ⟨by rw [hfr]; congr 1,hI⟩
  ·rw [if_neg (by rw [hb]; decide)] at hfr
   exact ⟨by rw [hfr],hI⟩
 intro t6 _ _ _ _ _ w'
 rintro ⟨rfl,hI⟩
 refine eN bl ?_
 refine ja ?_
 refine bz (fun hb=>?_) (fun hb=>?_)
 ·rw [if_pos (by omega)] at hr
  exact done hI (by rw [hr]; rfl)
 rw [if_neg (by omega)] at hr
 refine Run.callPure uo uG hI (pZ (by omega) hs S) fun w' hI=>?_
 cases hnm:qV s fr with
 | none=>
  rw [hnm] at hr
  simp only [] at hr
  simp only [Iq]
  refine aB rfl ?_
  refine aB rfl ?_
  refine ⟨fun t w'=>t=.bool true/\Inv w [] [] S w',?_,?_⟩
  ·refine xy (by omega) ?_
   repeat (first|refine ad ?_|refine af (by decide) ?_|refine ae ?_|refine ak ?_|refine aj ?_)
   exact ⟨rfl,hI⟩
  intro t33 _ _ _ _ _ _ w'
  rintro ⟨rfl,hI⟩
  exact aS (fun _=>done hI (by rw [hr]; rfl)) (fun hb=>by cases hb)
 | some q=>
  obtain ⟨nm,nx⟩:=q
  rw [hnm] at hr
  simp only [] at hr
  obtain ⟨h1,h2,h3,h4⟩:=sr (by omega) hnm
  simp only [Iq]
  refine aB (v:=.string (st nm)) rfl ?_
  refine aB (v:=.int .i64 (nx:Int)) rfl ?_
  refine ⟨fun t w'=>t=.bool (decide (cq (st nm)=0))/\Inv w [] [] S w',?_,?_⟩
  ·refine ey (by omega) ?_
   repeat (first|refine ad ?_|refine af (by decide) ?_|refine ae ?_|refine ak ?_|refine aj ?_)
   refine Run.callPure eq ev hI (cY _ S) fun w' hI=>?_
   refine bP ?_
   repeat (first|refine ad ?_|refine af (by decide) ?_|refine ae ?_|refine ak ?_|refine aj ?_)
   exact ⟨rfl,hI⟩
  intro t33 _ _ _ _ _ _ w'
  rintro ⟨rfl,hI⟩
  refine bz (fun hb=>?_) (fun hb=>?_)
  ·rw [if_pos (.inl hb)] at hr
   exact done hI (by rw [hr]; rfl)
  obtain ⟨word,hword⟩:∃ word,word=(decide (nm=[105,115]) || decide (nm=[109,111,100])):=⟨_,rfl⟩
  rw [<- hword] at hr
  refine ⟨fun t w'=>t=.bool word/\Inv w [] [] S w',?_,?_⟩
  ·refine xC (b:=[105,115]) ?_
   cases h5:decide (nm=[105,115])
   ·repeat (first|refine ad ?_|refine af (by decide) ?_|refine ae ?_|refine ak ?_|refine aj ?_)
    refine xC (b:=[109,111,100]) ?_
    repeat (first|refine ad ?_|refine af (by decide) ?_|refine ae ?_|refine ak ?_|refine aj ?_)
    exact ⟨by rw [hword,h5,Bool.false_or],hI⟩
   ·repeat (first|refine ad ?_|refine af (by decide) ?_|refine ae ?_|refine ak ?_|refine aj ?_)
    exact ⟨by rw [hword,h5,Bool.true_or],hI⟩
  intro t9 _ _ _ _ _ _ w'
  rintro ⟨rfl,hI⟩
  refine ⟨fun t w'=>t=.bool (decide (word≠decide (i<fr)) || (word && !sgn s nx 32))/\Inv w [] [] S w',?_,?_⟩
  ·refine di ?_
   refine K8 BS ?_
   have e1:decide ((i:Int)<(fr:Int))=decide (i<fr):=by rw [decide_eq_decide]; omega
   rw [e1]
   cases h6:decide (i<fr) <;> cases word
   ·repeat (first|refine ad ?_|refine af (by decide) ?_|refine ae ?_|refine ak ?_|refine aj ?_)
    exact ⟨by rfl,hI⟩
   ·repeat (first|refine ad ?_|refine af (by decide) ?_|refine ae ?_|refine ak ?_|refine aj ?_)
    exact ⟨by rfl,hI⟩
   ·repeat (first|refine ad ?_|refine af (by decide) ?_|refine ae ?_|refine ak ?_|refine aj ?_)
    exact ⟨by rfl,hI⟩
   ·repeat (first|refine ad ?_|refine af (by decide) ?_|refine ae ?_|refine ak ?_|refine aj ?_)
    refine Run.callPure cF cG hI (cz s nx 32 S) fun w' hI=>?_
    refine cK ?_
    repeat (first|refine ad ?_|refine af (by decide) ?_|refine ae ?_|refine ak ?_|refine aj ?_)
    exact ⟨by simp,hI⟩
  intro t54 _ _ _ _ _ _ _ _ _ _ _ _ _ w'
  rintro ⟨rfl,hI⟩
  refine aS (fun hb'=>?_) (fun hb'=>?_)
  ·rw [if_pos] at hr
   ·exact done hI (by rw [hr]; rfl)
   ·rw [Bool.or_eq_true,decide_eq_true_eq,Bool.and_eq_true,Bool.not_eq_true'] at hb'
    exact .inr hb'
  ·rw [if_neg] at hr
   ·refine ⟨fun t w'=>t=.int .i64 ((if word=true then nx+1 else nx:Nat):Int)/\Inv w [] [] S w',?_,?_⟩
    ·refine aS (fun hw=>?_) (fun hw=>?_)
     ·refine bT (by omega) ?_
      exact ⟨by rw [if_pos hw]; congr 1,hI⟩
     ·exact ⟨by rw [if_neg (by rw [hw]; decide)],hI⟩
    intro t8 _ _ _ w'
    rintro ⟨rfl,hI⟩
    exact done hI (by rw [hr]; rfl)
   ·rw [Bool.or_eq_false_iff,decide_eq_false_iff_not] at hb'
    rintro (h|h|⟨h,h'⟩)
    ·exact hb h
    ·exact hb'.1 h
    ·rw [h,h'] at hb'
     simp at hb'
end
end Go.Proofs.YtfcbhfjomgopbaaGreat

/- Publishing what a call owns; what is published since. -/
namespace Go.Proofs.YtfcbhfjomgopbaaGreat
open Go Go.RowKit
/- a tree of one's own, published -/
theorem Inv.pubExt {w0 w:World} {X:List Nat} {A:List Item} {S:al} {L:bG} (h:Inv w0 X (A++bV L) S w) :
  ∃ S',Inv w0 X A S' w/\Ext w0.heap.size X S S'/\Ins S' L:=by
 obtain ⟨S',h1,h2,h3,h4⟩:=h.publishAll L
 refine ⟨S',h1,⟨h2,fun b o hb=>?_⟩,h3⟩
 rcases h4 b o hb with h5|h5
 ·exact .inl h5
 ·right
  exact h.new b (by rw [co]; exact List.mem_append_right _ h5)
theorem Inv.pub1 {w0 w:World} {X:List Nat} {A:List Item} {S:al} {b:Nat} {o:Obj} (h:Inv w0 X (A++[.blk b o]) S w) :
  ∃ S',Inv w0 X A S' w/\Ext w0.heap.size X S S'/\S' b=some o:=by
 obtain ⟨S',h1,h2,h3⟩:=Inv.pubExt (A:=A) (L:=[(b,o)]) h
 exact ⟨S',h1,h2,h3 _ (List.mem_singleton.2 rfl)⟩
theorem Rows.monoR {α:Type} {k:Nat} {R R':List Value->α->Prop} {css:List (List Value)} {ys:List α} (h:Rows k R css ys) (hR:∀ cs y,R cs y->R' cs y):Rows k R' css ys:=⟨h.hc,h.hk,fun i h1 h2=>hR _ _ (h.hR i h1 h2)⟩
theorem Rows.one {α:Type} {k:Nat} {R:List Value->α->Prop} {cs:List Value} {y:α} (hR:R cs y) (hl:cs.length=k):Rows k R [cs] [y]:=by
 have:=(Rows.nil k R).snoc hR hl
 exact this
section
variable {P:Program} {w w0:World} {X:List Nat} {L:List Item} {S:al} {K:Value->World->Prop}
theorem Run.call0E {f:FuncId} {fn:Func} {args:List Value} {Post:Value->List Item->al->Prop}
  (hf:P.funcs[f]?=some fn) (hn:(fn.name == "runtime.NumGoroutine" || fn.body.isNone)=false) (h:Inv w0 X L S w) (hc:Tri P f args [] S Post)
  (hk:∀ v I' S' w',Post v I' S'->Ext w0.heap.size X S S'->Inv w0 X (L++I') S' w'->K v w'):Run P (fN (.func (.func f) #[] #[]) args) w K:=by
 refine Run.callP hf hn ((hc w h.nil.begin).mono ?_)
 rintro e w' ⟨v,I',S',rfl,hI,hE,hP⟩
 refine hk v I' S' w' hP ⟨hE.1,fun b o hb=>?_⟩ (Inv.step (A:=L) (B:=[]) (by simpa using h) hI hE.2)
 rcases hE.2 b o hb with h1|h1|h1
 ·exact .inl h1
 ·simp [bW] at h1
 ·exact .inr (.inr (Nat.le_trans h.size h1))
end
theorem Ext.trans {n:Nat} {Y:List Nat} {S S' S'':al} (h:Ext n Y S S') (h':Ext n Y S' S''):Ext n Y S S'':=by
 refine ⟨h.1.trans h'.1,fun b o hb=>?_⟩
 rcases h'.2 b o hb with h1|h1
 ·exact h.2 b o h1
 ·exact .inr h1
section
variable {P:Program} {w w0:World} {X:List Nat} {A I:List Item} {S:al} {K:Value->World->Prop}
theorem NL {f:FuncId} {args:List Value} {Post:Value->List Item->al->Prop} (h:Inv w0 X (A++I) S w) (hc:Tri P f args I S Post) :
  Calls P f args.toArray w fun e w'=>∃ v I' S',e=.returned v/\Inv w0 X (A++I') S' w'/\Ext w0.heap.size X S S'/\Post v I' S':=by
 refine (hc w (h.sub (List.sublist_append_right A I)).begin).mono ?_
 rintro e w' ⟨v,I',S',rfl,hI,hE,hP⟩
 refine ⟨v,I',S',rfl,Inv.step h hI hE.2,⟨hE.1,fun b o hb=>?_⟩,hP⟩
 rcases hE.2 b o hb with h1|h1|h1
 ·exact .inl h1
 ·exact .inr (h.new b (by rw [co]; exact List.mem_append_right _ h1))
 ·exact .inr (.inr (Nat.le_trans h.size h1))
theorem Run.callE {f:FuncId} {fn:Func} {args:List Value} {Post:Value->List Item->al->Prop}
  (hf:P.funcs[f]?=some fn) (hn:(fn.name == "runtime.NumGoroutine" || fn.body.isNone)=false) (h:Inv w0 X (A++I) S w) (hc:Tri P f args I S Post)
  (hk:∀ v I' S' w',Post v I' S'->Ext w0.heap.size X S S'->Inv w0 X (A++I') S' w'->K v w'):Run P (fN (.func (.func f) #[] #[]) args) w K:=by
 refine Run.callP hf hn ((NL h hc).mono ?_)
 rintro e w' ⟨v,I',S',rfl,hI,hE,hP⟩
 exact hk v I' S' w' hP hE hI
end
theorem Inv.lendExt {w0 w:World} {X:List Nat} {A:List Item} {S:al} {v:Value} {e:TypeId} {k:Nat} {css:List (List Value)} (h:Inv w0 X (A++[bq v e k css]) S w) :
  ∃ S',Ext w0.heap.size X S S'/\RowRd S' v e k css.length css.flatten/\Inv w0 X A S' w:=by
 obtain ⟨hl,ho⟩:=h.openRow
 rcases ho with ⟨rfl,h0⟩|⟨g,cap,cur,rfl,hnc,hcm,hcs,ht,hI⟩
 ·exact ⟨S,Ext.refl _ _ _,⟨hl,.inl ⟨rfl,h0⟩⟩,h.sub (List.sublist_append_left _ _)⟩
 ·obtain ⟨S',h1,h2,h3⟩:=Inv.pub1 (A:=A) hI
  exact ⟨S',h2,⟨hl,.inr ⟨g,cap,cur,rfl,h3,hnc,hcm,hcs,ht⟩⟩,h1⟩

end Go.Proofs.YtfcbhfjomgopbaaGreat
