/- Bytes, numbers, names and operators in texts: spec.l1Sign and its kin. (printed by gen_byt.py) -/
import Derived.Test.YtemmhhdnlbmicaaGreatZMf2
import Derived.Test.YtemmhhdnlbmicaaGreatZMfF
import Derived.Test.YtemmhhdnlbmicaaGreatZMf1
import Derived.Test.YtemmhhdnlbmicaaGreatZMf0
namespace Go.Proofs.YtemmhhdnlbmicaaGreat
open Go Go.RowKit
theorem fU {s:Bs} {i:Nat} (h:i<s.length) (c:Nat):sgn s i c=decide (s[i].toNat=c):=by simp [sgn,List.getElem?_eq_getElem h]
theorem ET {s:Bs} {i:Nat} (h:¬ i<s.length) (c:Nat):sgn s i c=false:=by simp [sgn,List.getElem?_eq_none (Nat.le_of_not_lt h)]
theorem gK {s:Bs} {i:Nat} (h:i<s.length) (a b:Nat):btw s i a b=(decide (a<=s[i].toNat) && decide (s[i].toNat<=b)):=by simp [btw,List.getElem?_eq_getElem h]
theorem AU {s:Bs} {i:Nat} (h:¬ i<s.length) (a b:Nat):btw s i a b=false:=by simp [btw,List.getElem?_eq_none (Nat.le_of_not_lt h)]
theorem tX {s:Bs} {i a b:Nat} (h:btw s i a b=true):i<s.length:=by
 rcases Nat.lt_or_ge i s.length with h1|h1
 ·exact h1
 ·rw [AU (by omega)] at h; cases h
theorem eS {s:Bs} {i c:Nat} (h:sgn s i c=true):i<s.length:=by
 rcases Nat.lt_or_ge i s.length with h1|h1
 ·exact h1
 ·rw [ET (by omega)] at h; cases h
section
attribute [local irreducible] Run CondV ag a4
theorem bG (s:Bs) (i c:Nat) (S:av):Pure Tryz.prog BW [.string (st s),.int .i64 (i:Int),.int .u8 (c:Int)] S (.bool (sgn s i c)):=by
 intro w hI
 refine uK ?_
 unfold rK;dsimp only
 refine i6 (by omega) ?_
 repeat (first|refine ac ?_|refine af (by decide) ?_|refine ab ?_|refine al ?_|refine ak ?_)
 refine ek a7 ?_
 by_cases h:i<s.length
 ·refine sN (by omega) ?_
  repeat (first|refine ac ?_|refine af (by decide) ?_|refine ab ?_|refine al ?_|refine ak ?_)
  refine dn a7 h ?_
  refine cw ?_
  repeat (first|refine ac ?_|refine af (by decide) ?_|refine ab ?_|refine al ?_|refine ak ?_)
  refine done hI ?_
  rw [fU h]
  congr 1
  rw [decide_eq_decide]
  omega
 ·refine dI (by omega) ?_
  repeat (first|refine ac ?_|refine af (by decide) ?_|refine ab ?_|refine al ?_|refine ak ?_)
  exact done hI (by rw [ET h])
theorem dR (s:Bs) (i:Nat) (S:av):Pure Tryz.prog Aj [.string (st s),.int .i64 (i:Int)] S (.bool (dig s i)):=by
 intro w hI
 refine sj ?_
 unfold n9;dsimp only
 refine i6 (by omega) ?_
 repeat (first|refine ac ?_|refine af (by decide) ?_|refine ab ?_|refine al ?_|refine ak ?_)
 refine ek a7 ?_
 by_cases h:i<s.length
 ·refine sN (by omega) ?_
  repeat (first|refine ac ?_|refine af (by decide) ?_|refine ab ?_|refine al ?_|refine ak ?_)
  refine dn a7 h ?_
  rw [dig,gK h]
  by_cases h2:48<=s[i].toNat
  ·refine i6 (by omega) ?_
   repeat (first|refine ac ?_|refine af (by decide) ?_|refine ab ?_|refine al ?_|refine ak ?_)
   refine dn a7 h ?_
   refine fI ?_
   repeat (first|refine ac ?_|refine af (by decide) ?_|refine ab ?_|refine al ?_|refine ak ?_)
   refine done hI ?_
   rw [decide_eq_true h2,Bool.true_and]
   congr 1
   rw [decide_eq_decide]
   omega
  ·refine kS (by omega) ?_
   repeat (first|refine ac ?_|refine af (by decide) ?_|refine ab ?_|refine al ?_|refine ak ?_)
   exact done hI (by rw [decide_eq_false h2,Bool.false_and])
 ·refine dI (by omega) ?_
  repeat (first|refine ac ?_|refine af (by decide) ?_|refine ab ?_|refine al ?_|refine ak ?_)
  exact done hI (by rw [dig,AU h])
theorem kA (s:Bs) (i:Nat) (S:av):Pure Tryz.prog zW [.string (st s),.int .i64 (i:Int)] S (.bool (sml s i)):=by
 intro w hI
 refine r3 ?_
 unfold oU;dsimp only
 refine i6 (by omega) ?_
 repeat (first|refine ac ?_|refine af (by decide) ?_|refine ab ?_|refine al ?_|refine ak ?_)
 refine ek a7 ?_
 by_cases h:i<s.length
 ·refine sN (by omega) ?_
  repeat (first|refine ac ?_|refine af (by decide) ?_|refine ab ?_|refine al ?_|refine ak ?_)
  refine dn a7 h ?_
  rw [sml,gK h]
  by_cases h2:97<=s[i].toNat
  ·refine i6 (by omega) ?_
   repeat (first|refine ac ?_|refine af (by decide) ?_|refine ab ?_|refine al ?_|refine ak ?_)
   refine dn a7 h ?_
   refine fI ?_
   repeat (first|refine ac ?_|refine af (by decide) ?_|refine ab ?_|refine al ?_|refine ak ?_)
   refine done hI ?_
   rw [decide_eq_true h2,Bool.true_and]
   congr 1
   rw [decide_eq_decide]
   omega
  ·refine kS (by omega) ?_
   repeat (first|refine ac ?_|refine af (by decide) ?_|refine ab ?_|refine al ?_|refine ak ?_)
   exact done hI (by rw [decide_eq_false h2,Bool.false_and])
 ·refine dI (by omega) ?_
  repeat (first|refine ac ?_|refine af (by decide) ?_|refine ab ?_|refine al ?_|refine ak ?_)
  exact done hI (by rw [sml,AU h])
end
theorem Cq {s:Bs} {i:Nat} (h:i<s.length):dig s i=true↔48<=s[i].toNat/\s[i].toNat<=57:=by
 rw [dig,gK h,Bool.and_eq_true,decide_eq_true_eq,decide_eq_true_eq]
theorem C3 {d:Bs} {j:Nat} (h:j<d.length) (m:Nat):vW (d.drop j) m=vW (d.drop (j+1)) (m * 10+(d[j].toNat - 48)):=by
 rw [List.drop_eq_getElem_cons h,vW]
section
attribute [local irreducible] Run CondV ag a4
theorem yn (d:Bs) (hd:∀ i,i<d.length->dig d i=true) (h0:0<d.length) (h4:d.length<=4) (hz:¬ (sgn d 0 48=true/\1<d.length)) (S:av) :
  Pure Tryz.prog Bc [.string (st d)] S (.tuple #[.int .i64 ((vW d 0:Nat):Int),.bool true]):=by
 intro w hI
 refine th ?_
 unfold rv;dsimp only
 have hd0:=(Cq h0).1 (hd 0 h0)
 refine ⟨fun t w'=>t=.bool false/\Inv w [] [] S w',?_,?_⟩
 ·refine ek a7 ?_
  refine Ci (by omega) ?_
  repeat (first|refine ac ?_|refine af (by decide) ?_|refine ab ?_|refine al ?_|refine ak ?_)
  refine dn (i:=0) a7 h0 ?_
  refine dw (by omega) ?_
  repeat (first|refine ac ?_|refine af (by decide) ?_|refine ab ?_|refine al ?_|refine ak ?_)
  exact ⟨rfl,hI⟩
 intro t4 _ _ _ _ _ _ _ _ w'
 rintro ⟨rfl,hI⟩
 refine ⟨fun t w'=>t=.string (st d)/\Inv w [] [] S w',?_,?_⟩
 ·exact aX (fun hb=>by cases hb) (fun _=>⟨rfl,hI⟩)
 intro t0 _ _ _ w'
 rintro ⟨rfl,hI⟩
 refine ⟨fun t w'=>t=.bool false/\Inv w [] [] S w',?_,?_⟩
 ·refine ek a7 ?_
  refine dw (by omega) ?_
  repeat (first|refine ac ?_|refine af (by decide) ?_|refine ab ?_|refine al ?_|refine ak ?_)
  refine ek a7 ?_
  refine i7 (by omega) ?_
  repeat (first|refine ac ?_|refine af (by decide) ?_|refine ab ?_|refine al ?_|refine ak ?_)
  refine dn (i:=0) a7 h0 ?_
  by_cases hs:d[0].toNat=48
  ·refine eH (by omega) ?_
   repeat (first|refine ac ?_|refine af (by decide) ?_|refine ab ?_|refine al ?_|refine ak ?_)
   refine ek a7 ?_
   refine i7 (by
    have:¬ 1<d.length:=fun h=>hz ⟨by rw [fU h0,hs]; rfl,h⟩
    omega) ?_
   repeat (first|refine ac ?_|refine af (by decide) ?_|refine ab ?_|refine al ?_|refine ak ?_)
   exact ⟨rfl,hI⟩
  ·refine dw (by omega) ?_
   repeat (first|refine ac ?_|refine af (by decide) ?_|refine ab ?_|refine al ?_|refine ak ?_)
   exact ⟨rfl,hI⟩
 intro t38 _ _ _ _ _ _ _ _ _ _ _ _ _ _ _ _ _ _ _ _ w'
 rintro ⟨rfl,hI⟩
 refine aX (fun hb=>by cases hb) (fun _=>?_)
 refine ⟨fun i n w'=>∃ j m:Nat,j<=d.length/\i=.int .i64 j/\n=.int .i64 m/\m<10 ^ j/\vW (d.drop j) m=vW d 0/\Inv w [] [] S w',fun i _ _=>d.length - (intOf i).toNat,
  ⟨0,0,Nat.zero_le _,rfl,rfl,by simp,rfl,hI⟩,?_⟩
 intro t6 _ _ t5 _ _ _ _ _ _ _ _ _ _ _ _ _ _ _ _ _ _ _ _ _ _ _ _ w'
 rintro ⟨j,m,hj,rfl,rfl,hm,hval,hI⟩
 have hp:10 ^ j<=10 ^ 4:=Nat.pow_le_pow_right (by omega) (by omega)
 refine ek a7 ?_
 refine co ?_
 refine bp (fun hji=>?_) (fun hji=>?_)
 ·have hj':j<d.length:=by omega
  have hdj:=(Cq hj').1 (hd j hj')
  refine ⟨fun t w'=>t=.bool false/\Inv w [] [] S w',?_,?_⟩
  ·refine dn a7 hj' ?_
   refine dI (by omega) ?_
   repeat (first|refine ac ?_|refine af (by decide) ?_|refine ab ?_|refine al ?_|refine ak ?_)
   refine dn a7 hj' ?_
   refine i7 (by omega) ?_
   repeat (first|refine ac ?_|refine af (by decide) ?_|refine ab ?_|refine al ?_|refine ak ?_)
   exact ⟨rfl,hI⟩
  intro t54 _ _ _ _ _ _ _ _ _ w'
  rintro ⟨rfl,hI⟩
  refine aX (fun hb=>by cases hb) (fun _=>?_)
  refine wv (by omega) ?_
  refine dn a7 hj' ?_
  refine BZ (c:=((d[j].toNat - 48:Nat):Int)) ?_ ?_
  ·rw [IntWalk.u8_in _ (by omega)]; omega
  refine jV eM gJ (IntWalk.i64_in _ (by omega)) ?_
  refine bC (by omega) ?_
  refine bC (by omega) ?_
  refine ⟨⟨j+1,m * 10+(d[j].toNat - 48),hj',rfl,?_,?_,?_,hI⟩,by simp [intOf]; omega⟩
  ·congr 1
  ·rw [Nat.pow_succ]; omega
  ·rw [<- hval,C3 hj']
 ·have:j=d.length:=by omega
  subst this
  rw [List.drop_length,vW] at hval
  refine ⟨fun t w'=>t=.int .i64 m/\Inv w [] [] S w',aX (fun hb=>by cases hb) (fun _=>⟨rfl,hI⟩),?_⟩
  intro t5 _ _ _ w'
  rintro ⟨rfl,hI⟩
  exact done hI (by rw [hval])
abbrev wE (k n:Int):Value:=.agg #[.int .i64 k,.int .i64 n,.string ⟨#[]⟩,.slice none 0 0]
theorem rm {w:World} {K:Value->World->Prop} {k n:Int} (hk:K (wE k n) w):Run Tryz.prog (cK ad [(0,.int .i64 k),(1,.int .i64 n)]) w K:=by
 refine Run.of (v:=wE k n) (w':=w) ?_ hk
 unfold cK
 rw [Sem.run_bind,run_build w ad _ #[.int .i64 k,.int .i64 n,.string ⟨#[]⟩,.slice none 0 0] (by kernel_rfl),Result.andThen_ok]
 rfl
theorem mU (n:Int) (S:av):Pure Tryz.prog CZ [.int .i64 n] S (wE 1 n):=by
 intro w hI
 refine u2 ?_
 unfold s0
 refine bw hI bu fun b w' hI=>?_
 refine rm ?_
 refine bd hI 0 rfl ai rfl rfl (by simp [Value.oneCell']) fun w' hI=>?_
 refine cz hI 0 ai rfl rfl ?_
 exact done hI rfl
theorem mJ (n:Int) (S:av):Pure Tryz.prog C6 [.int .i64 n] S (wE 2 n):=by
 intro w hI
 refine u6 ?_
 unfold um
 refine bw hI bu fun b w' hI=>?_
 refine rm ?_
 refine bd hI 0 rfl ai rfl rfl (by simp [Value.oneCell']) fun w' hI=>?_
 refine cz hI 0 ai rfl rfl ?_
 exact done hI rfl
end
theorem AF (s:Bs) (n e:Nat):mn s (n+1) e=if dig s e=true then mn s n (e+1) else e:=rfl
theorem xZ (s:Bs):∀ (n e:Nat),e<=mn s n e/\mn s n e<=e+n
 | 0,e=>by simp [mn]
 | n+1,e=>by
  rw [mn]
  split
  ·have:=xZ s n (e+1); omega
  ·omega
theorem oN (s:Bs):∀ (n e i:Nat),e<=i->i<mn s n e->dig s i=true
 | 0,e,i,h1,h2=>by simp [mn] at h2; omega
 | n+1,e,i,h1,h2=>by
  rw [mn] at h2
  split at h2
  ·rename_i h
   by_cases he:e=i
   ·subst he; exact h
   ·exact oN s n (e+1) i (by omega) h2
  ·omega
theorem yg {s:Bs} {a b i:Nat} (hi:i<(cut s a b).length):∃ h:a+i<s.length,(cut s a b)[i]=s[a+i]/\a+i<b:=by
 have h1:(cut s a b).length=min b s.length - a:=by simp [cut]
 refine ⟨by omega,?_,by omega⟩
 simp [cut]
theorem xW {s:Bs} {a b:Nat} (hb:b<=s.length):(cut s a b).length=b - a:=by simp [cut]; omega
theorem FJ {s:Bs} {a b i:Nat} (hi:i<(cut s a b).length):dig (cut s a b) i=dig s (a+i):=by
 obtain ⟨h,e,_⟩:=yg hi
 rw [dig,dig,gK hi,gK h,e]
section
attribute [local irreducible] Run CondV ag a4
theorem uy {s:Bs} {i e:Nat} {t:T} (hn:Ex s i=some (t,e)) (hi:i<=100000) (S:av) :
  ∃ n:Int,inI n/\t=.mk 2 n emptyB []/\i<=e/\e<=i+5/\Pure Tryz.prog yc [.string (st s),.int .i64 (i:Int)] S (.tuple #[wE 2 n,.int .i64 (e:Int)]):=by
 unfold Ex at hn
 obtain ⟨fr,hfr⟩:∃ fr,fr=if sgn s i 45=true then i+1 else i:=⟨_,rfl⟩
 simp only [<- hfr] at hn
 obtain ⟨en,hen⟩:∃ en,en=mn s 4 fr:=⟨_,rfl⟩
 simp only [<- hen] at hn
 have hle:=xZ s 4 fr
 rw [<- hen] at hle
 have hfi:i<=fr/\fr<=i+1:=by rw [hfr]; split <;> omega
 split at hn
 ·cases hn
 rename_i hc
 simp only [not_or] at hc
 obtain ⟨hc1,hc2,hc3,hc4⟩:=hc
 simp only [Option.some.injEq,Prod.mk.injEq] at hn
 obtain ⟨rfl,rfl⟩:=hn
 have hdig:∀ j,j<(cut s fr en).length->dig (cut s fr en) j=true:=fun j hj=>by
  obtain ⟨h1,h2,h3⟩:=yg hj
  rw [FJ hj]
  exact oN s 4 fr _ (by omega) (by rw [<- hen]; exact h3)
 have hlen0:0<(cut s fr en).length:=by
  cases he:cut s fr en with
  | nil=>exact absurd he hc1
  | cons a l=>simp
 have hen2:fr<en:=by
  obtain ⟨_,_,h3⟩:=yg hlen0
  omega
 have hens:en<=s.length:=by
  have:=oN s 4 fr (en - 1) (by omega) (by rw [<- hen]; omega)
  have:=tX this
  omega
 refine ⟨_,?_,rfl,by omega,by omega,?_⟩
 ·unfold inI; split <;> omega
 intro w hI
 refine qc ?_
 unfold mq;dsimp only
 refine bw hI bu fun b4 w' hI=>?_
 refine ⟨fun t w'=>t=.int .i64 (fr:Int)/\Inv w [] [.blk b4 (.cells #[.int .i64 0,.int .i64 0,.string ⟨#[]⟩,.slice none 0 0] ad)] S w',?_,?_⟩
 ·refine Run.callPure cm cn hI (bG s i 45 S) fun w' hI=>?_
  refine aX (fun hb=>?_) (fun hb=>?_)
  ·refine bC (by omega) ?_
   rw [if_pos hb] at hfr
   exact ⟨by rw [hfr]; congr 1,hI⟩
  ·rw [if_neg (by rw [hb]; decide)] at hfr
   exact ⟨by rw [hfr],hI⟩
 intro t6 _ _ _ _ _ w'
 rintro ⟨rfl,hI⟩
 refine ⟨fun t w'=>∃ j:Nat,t=.int .i64 (j:Int)/\fr<=j/\j<=fr+4/\mn s (fr+4 - j) j=en/\Inv w [] [.blk b4 (.cells #[.int .i64 0,.int .i64 0,.string ⟨#[]⟩,.slice none 0 0] ad)] S w',fun t _=>fr+4 - (intOf t).toNat,
  ⟨fr,rfl,Nat.le_refl _,by omega,by rw [Nat.add_sub_cancel_left]; exact hen.symm,hI⟩,?_⟩
 intro t6 _ _ _ _ _ _ _ _ _ _ _ w'
 rintro ⟨j,rfl,hj1,hj2,hj3,hI⟩
 refine ⟨fun t w'=>t=.bool (dig s j && decide (j<fr+4))/\Inv w [] [.blk b4 (.cells #[.int .i64 0,.int .i64 0,.string ⟨#[]⟩,.slice none 0 0] ad)] S w',?_,?_⟩
 ·refine Run.callPure fg fc hI (dR s j S) fun w' hI=>?_
  cases hdj:dig s j
  ·repeat (first|refine ac ?_|refine af (by decide) ?_|refine ab ?_|refine al ?_|refine ak ?_)
   exact ⟨rfl,hI⟩
  ·repeat (first|refine ac ?_|refine af (by decide) ?_|refine ab ?_|refine al ?_|refine ak ?_)
   refine bC (by omega) ?_
   refine co ?_
   repeat (first|refine ac ?_|refine af (by decide) ?_|refine ab ?_|refine al ?_|refine ak ?_)
   refine ⟨?_,hI⟩
   rw [Bool.true_and]
   congr 1
   rw [decide_eq_decide]
   omega
 intro t25 _ _ _ _ _ _ _ _ w'
 rintro ⟨rfl,hI⟩
 refine aX (fun hb=>?_) (fun hb=>?_)
 ·rw [Bool.and_eq_true,decide_eq_true_eq] at hb
  refine bC (by omega) ?_
  refine ⟨⟨j+1,rfl,by omega,by omega,?_,hI⟩,by simp [intOf]; omega⟩
  rw [<- hj3,show fr+4 - j=(fr+4 - (j+1))+1 by omega,AF,if_pos hb.1]
 ·have hje:j=en:=by
   rw [<- hj3]
   by_cases h4:j=fr+4
   ·rw [h4,Nat.sub_self]; rfl
   ·rw [show fr+4 - j=(fr+4 - (j+1))+1 by omega,AF,if_neg]
    intro hd
    rw [hd,Bool.true_and,decide_eq_false_iff_not] at hb
    omega
  subst hje
  refine uj a7 (by omega) hens ?_
  refine Run.callPure Ax Ak hI (yn _ hdig hlen0 (by rw [xW hens]; omega) hc2 S) fun w' hI=>?_
  obtain ⟨n,hn⟩:∃ n,n=vW (cut s fr j) 0:=⟨_,rfl⟩
  rw [<- hn]
  refine a5 (v:=.int .i64 (n:Int)) rfl ?_
  refine a5 (v:=.bool true) rfl ?_
  simp only [<- hn] at hc3 hc4 ⊢
  refine ⟨fun t w'=>t=.bool false/\Inv w [] [.blk b4 (.cells #[.int .i64 0,.int .i64 0,.string ⟨#[]⟩,.slice none 0 0] ad)] S w',?_,?_⟩
  ·refine c9 ?_
   repeat (first|refine ac ?_|refine af (by decide) ?_|refine ab ?_|refine al ?_|refine ak ?_)
   by_cases hfi':i<fr
   ·refine Ci (by omega) ?_
    repeat (first|refine ac ?_|refine af (by decide) ?_|refine ab ?_|refine al ?_|refine ak ?_)
    refine cw ?_
    have:¬ n=0:=fun h=>hc3 ⟨hfi',h⟩
    rw [decide_eq_false (by omega)]
    repeat (first|refine ac ?_|refine af (by decide) ?_|refine ab ?_|refine al ?_|refine ak ?_)
    refine i7 (by omega) ?_
    repeat (first|refine ac ?_|refine af (by decide) ?_|refine ab ?_|refine al ?_|refine ak ?_)
    exact ⟨rfl,hI⟩
   ·refine i7 (by omega) ?_
    repeat (first|refine ac ?_|refine af (by decide) ?_|refine ab ?_|refine al ?_|refine ak ?_)
    refine i7 (by omega) ?_
    repeat (first|refine ac ?_|refine af (by decide) ?_|refine ab ?_|refine al ?_|refine ak ?_)
    exact ⟨rfl,hI⟩
  intro t50 _ _ _ _ _ _ _ _ _ _ _ _ _ _ w'
  rintro ⟨rfl,hI⟩
  refine aX (fun hb=>by cases hb) (fun _=>?_)
  refine ⟨fun t w'=>t=.int .i64 (if i<fr then -(n:Int) else n)/\Inv w [] [.blk b4 (.cells #[.int .i64 0,.int .i64 0,.string ⟨#[]⟩,.slice none 0 0] ad)] S w',?_,?_⟩
  ·refine dS ?_
   refine bp (fun hb=>?_) (fun hb=>?_)
   ·refine FT (by omega) ?_
    exact ⟨by rw [if_pos (by omega)],hI⟩
   ·exact ⟨by rw [if_neg (by omega)],hI⟩
  intro t8 _ _ _ _ _ w'
  rintro ⟨rfl,hI⟩
  refine Run.callPure tj tP hI (mJ _ S) fun w' hI=>?_
  refine bd hI 0 rfl ai rfl rfl (by simp [Value.oneCell']) fun w' hI=>?_
  refine cz hI 0 ai rfl rfl ?_
  exact done hI rfl
end
theorem RdSl.some1 {α:Type} {S:av} {k:Nat} {R:List Value->α->Prop} {v:Value} {xs:List α} (h:RdSl S k R v xs) (h0:0<xs.length):∃ b o cap,v=.slice (some ⟨b,o,none⟩) xs.length cap:=by
 obtain ⟨b,o,cap,c,E,fz,e,_,_⟩:=h.at_ h0
 exact ⟨b,o,cap,e⟩
theorem yQ (s:Bs) (n e:Nat):rU s (n+1) e=if sml s e=true then rU s n (e+1) else e:=rfl
def y4 (o:Option (Bs × Nat)):Value:=match o with
 | none=>.tuple #[.string ⟨#[]⟩,.int .i64 (-1)]
 | some (n,e)=>.tuple #[.string (st n),.int .i64 (e:Int)]
theorem Bd (s:Bs) (i:Nat) {j:Nat} (h:j<signs.length) (b:Bs):gb s i (signs.drop j) b=gb s i (signs.drop (j+1)) (if decide (i+signs[j].size<=s.length)=true/\cut s i (i+signs[j].size)=bs signs[j]/\b.length<signs[j].size then bs signs[j] else b):=by
 rw [List.drop_eq_getElem_cons h,gb]
theorem Ag:∀ x∈signs,x.size<=3:=by decide
section
attribute [local irreducible] Run CondV ag a4
theorem j4 {s:Bs} {i:Nat} (hi:i<s.length) (hs:s.length<=100000) (S:av):Pure Tryz.prog Bq [.string (st s),.int .i64 (i:Int)] S (y4 (kl s i)):=by
 intro w hI
 refine s4 ?_
 unfold rg
 obtain ⟨E,hE⟩:∃ E,E=rU s (s.length - i) i:=⟨_,rfl⟩
 have hnm:kl s i=if i+6<E then none else if i<E then some (cut s i E,E) else if gb s i signs []=[] then none else some (gb s i signs [],i+(gb s i signs []).length):=by
  rw [kl,<- hE]
 refine ⟨fun t w'=>∃ e:Nat,t=.int .i64 (e:Int)/\i<=e/\e<=s.length/\rU s (s.length - e) e=E/\Inv w [] [] S w',fun t _=>s.length - (intOf t).toNat,⟨i,rfl,Nat.le_refl _,by omega,hE.symm,hI⟩,?_⟩
 intro t6 _ _ _ _ _ w'
 rintro ⟨e,rfl,he1,he2,he3,hI⟩
 refine Run.callPure oi o3 hI (kA s e S) fun w' hI=>?_
 refine aX (fun hb=>?_) (fun hb=>?_)
 ·have hlt:=tX hb
  refine bC (by omega) ?_
  refine ⟨⟨e+1,rfl,by omega,by omega,?_,hI⟩,by simp [intOf]; omega⟩
  rw [<- he3,show s.length - e=(s.length - (e+1))+1 by omega,yQ,if_pos hb]
 have heE:e=E:=by
  rw [<- he3]
  by_cases h:e=s.length
  ·rw [h,Nat.sub_self,rU]
  ·rw [show s.length - e=(s.length - (e+1))+1 by omega,yQ,if_neg (by rw [hb]; decide)]
 subst heE
 refine bC (by omega) ?_
 refine dS ?_
 refine bp (fun hb=>done hI (by rw [hnm,if_pos (by omega)]; rfl)) (fun hb=>?_)
 rw [if_neg (by omega)] at hnm
 refine dS ?_
 refine bp (fun hb=>?_) (fun hb=>?_)
 ·refine uj a7 (by omega) (by omega) ?_
  exact done hI (by rw [hnm,if_pos (by omega)]; rfl)
 rw [if_neg (by omega)] at hnm
 refine Run.call0 oO nV hI (mE S) fun v I' S1 w'=>?_
 rintro ⟨rfl,hle,hr⟩ _ hI
 obtain ⟨b,o,cap,rfl⟩:=RdSl.some1 hr (by decide)
 refine ⟨fun t u w'=>∃ (j:Nat) (best:Bs),j<=signs.length/\t=.int .i64 (j:Int)/\u=.string (st best)/\best.length<=3/\gb s i (signs.drop j) best=gb s i signs []/\Inv w [] [] S1 w',fun t _ _=>signs.length - (intOf t).toNat,
  ⟨0,[],Nat.zero_le _,rfl,rfl,by simp,rfl,hI.nil⟩,?_⟩
 intro t9 _ _ t7 _ _ _ _ t65 t64 t63 t62 t61 t60 t59 t58 t57 t56 t55 t54 t53 t52 t51 t50 t49 t48 t47 t46 t45 t44 t43 t42 t41 _ _ _ _ _ _ _ _ _ _ w'
 rintro ⟨j,best,hj0,rfl,rfl,hbl,hbest,hI⟩
 have h15:signs.length=15:=rfl
 refine a9 hr cg ?_
 refine co ?_
 refine bp (fun hji=>?_) (fun hji=>?_)
 ·have hj:j<signs.length:=by omega
  obtain ⟨x,hx⟩:∃ x,x=signs[j]:=⟨_,rfl⟩
  have hx3:x.size<=3:=by rw [hx]; exact Ag _ (List.getElem_mem hj)
  obtain ⟨b',o',cap',c,E',fz,hsl,hS,hR⟩:=hr.at_ hj
  cases hsl
  have hcx:c[o+j * 1]?=some (.string x):=by rw [hx]; exact be hR 0 _ rfl
  rw [Bd s i hj,<- hx] at hbest
  refine ⟨fun u w'=>∃ best',u=.string (st best')/\best'.length<=3/\gb s i (signs.drop (j+1)) best'=gb s i signs []/\Inv w [] [] S1 w',?_,?_⟩
  ·refine ba cg hj ?_
   refine eo bi ((hI.cellS hS).trans hcx) ?_
   refine gw a7 ?_
   by_cases hlen:i+x.size<=s.length
   ·cases hq:decide (st (cut s i (i+x.size))=x)
    ·skip
     refine ⟨fun D ch cr ct cD cH cF cE cG cB cC cX cI cJ cv cd cf ce bD bE cO cQ cR cM cP cN w_=>(D 0=true->cN=.int .i64 (i:Int))/\(D 1=true->cP=.int .i64 (x.size:Int))/\(D 2=true->cM=.int .i64 ((i+x.size:Nat):Int))/\(D 3=true->cR=.string (st s))/\(D 4=true->cQ=.int .i64 (s.length:Int))/\(D 5=true->cO=.bool true)/\(D 6=true->bE=.bool true)/\(D 7=true->bD=.string (st s))/\(D 8=true->ce=.int .i64 (i:Int))/\(D 9=true->cf=.int .i64 (i:Int))/\(D 10=true->cd=.int .i64 (x.size:Int))/\(D 11=true->cv=.int .i64 ((i+x.size:Nat):Int))/\(D 12=true->cJ=.string (st (cut s i (i+x.size))))/\(D 13=true->cI=.slice (some ⟨b,o,none⟩) signs.length cap)/\(D 14=true->cX=.int .i64 (j:Int))/\(D 15=true->cC=.pointer (some ⟨b,o+j * 1,none⟩))/\(D 16=true->cB=.string x)/\(D 17=true->cG=.bool false)/\(D 18=true->cE=.bool false)/\(D 19=true->cF=.bool false)/\(D 20=true->cH=undef)/\(D 21=true->cD=undef)/\(D 22=true->ct=undef)/\(D 23=true->cr=undef)/\(D 24=true->ch=.bool false)/\Inv w [] [] S1 w_,⟨ae,ae,ae,ae,ae,ae,ae,ae,ae,ae,ae,ae,ae,ae,ae,ae,ae,ae,ae,ae,ae,ae,ae,ae,ae,hI.draw⟩,⟨?_,?_,?_,?_,?_,?_,?_,?_,?_,?_,?_,?_,?_,?_,?_,?_,?_,?_,?_,?_,?_,?_,?_,?_,?_,trivial⟩,?_⟩
     ·intro D a6  ch cr ct cD cH cF cE cG cB cC cX cI cJ cv cd cf ce bD bE cO cQ cR cM cP cN w_
      rintro ⟨aB,aC,aA,aD,ax,aF,aE,aG,aI,aM,ah,aj,ar,aJ,aK,aL,aP,aO,aQ,aR,aU,aV,aY,aZ,a3,hI⟩
      exact ⟨fun _=>rfl,aC,aA,aD,ax,aF,aE,aG,aI,aM,ah,aj,ar,aJ,aK,aL,aP,aO,aQ,aR,aU,aV,aY,aZ,a3,hI⟩
     ·intro D a6  ch cr ct cD cH cF cE cG cB cC cX cI cJ cv cd cf ce bD bE cO cQ cR cM cP cN w_
      rintro ⟨aB,aC,aA,aD,ax,aF,aE,aG,aI,aM,ah,aj,ar,aJ,aK,aL,aP,aO,aQ,aR,aU,aV,aY,aZ,a3,hI⟩
      exact ⟨aB,fun _=>rfl,aA,aD,ax,aF,aE,aG,aI,aM,ah,aj,ar,aJ,aK,aL,aP,aO,aQ,aR,aU,aV,aY,aZ,a3,hI⟩
     ·intro D a6 cV gH ch cr ct cD cH cF cE cG cB cC cX cI cJ cv cd cf ce bD bE cO cQ cR cM cP cN w_
      rintro ⟨aB,aC,aA,aD,ax,aF,aE,aG,aI,aM,ah,aj,ar,aJ,aK,aL,aP,aO,aQ,aR,aU,aV,aY,aZ,a3,hI⟩
      obtain rfl:=aB cV
      obtain rfl:=aC gH
      refine bC (by omega) ?_
      exact ⟨aB,aC,fun _=>rfl,aD,ax,aF,aE,aG,aI,aM,ah,aj,ar,aJ,aK,aL,aP,aO,aQ,aR,aU,aV,aY,aZ,a3,hI⟩
     ·intro D a6  ch cr ct cD cH cF cE cG cB cC cX cI cJ cv cd cf ce bD bE cO cQ cR cM cP cN w_
      rintro ⟨aB,aC,aA,aD,ax,aF,aE,aG,aI,aM,ah,aj,ar,aJ,aK,aL,aP,aO,aQ,aR,aU,aV,aY,aZ,a3,hI⟩
      exact ⟨aB,aC,aA,fun _=>rfl,ax,aF,aE,aG,aI,aM,ah,aj,ar,aJ,aK,aL,aP,aO,aQ,aR,aU,aV,aY,aZ,a3,hI⟩
     ·intro D a6 dg ch cr ct cD cH cF cE cG cB cC cX cI cJ cv cd cf ce bD bE cO cQ cR cM cP cN w_
      rintro ⟨aB,aC,aA,aD,ax,aF,aE,aG,aI,aM,ah,aj,ar,aJ,aK,aL,aP,aO,aQ,aR,aU,aV,aY,aZ,a3,hI⟩
      obtain rfl:=aD dg
      refine ek a7 ?_
      exact ⟨aB,aC,aA,aD,fun _=>rfl,aF,aE,aG,aI,aM,ah,aj,ar,aJ,aK,aL,aP,aO,aQ,aR,aU,aV,aY,aZ,a3,hI⟩
     ·intro D a6 eL dW ch cr ct cD cH cF cE cG cB cC cX cI cJ cv cd cf ce bD bE cO cQ cR cM cP cN w_
      rintro ⟨aB,aC,aA,aD,ax,aF,aE,aG,aI,aM,ah,aj,ar,aJ,aK,aL,aP,aO,aQ,aR,aU,aV,aY,aZ,a3,hI⟩
      obtain rfl:=aA eL
      obtain rfl:=ax dW
      refine tT (by omega) ?_
      exact ⟨aB,aC,aA,aD,ax,fun _=>rfl,aE,aG,aI,aM,ah,aj,ar,aJ,aK,aL,aP,aO,aQ,aR,aU,aV,aY,aZ,a3,hI⟩
     ·intro D a6 ef ch cr ct cD cH cF cE cG cB cC cX cI cJ cv cd cf ce bD bE cO cQ cR cM cP cN w_
      rintro ⟨aB,aC,aA,aD,ax,aF,aE,aG,aI,aM,ah,aj,ar,aJ,aK,aL,aP,aO,aQ,aR,aU,aV,aY,aZ,a3,hI⟩
      obtain rfl:=aF ef
      exact ⟨aB,aC,aA,aD,ax,aF,fun _=>rfl,aG,aI,aM,ah,aj,ar,aJ,aK,aL,aP,aO,aQ,aR,aU,aV,aY,aZ,a3,hI⟩
     ·intro D a6 cA ch cr ct cD cH cF cE cG cB cC cX cI cJ cv cd cf ce bD bE cO cQ cR cM cP cN w_
      rintro ⟨aB,aC,aA,aD,ax,aF,aE,aG,aI,aM,ah,aj,ar,aJ,aK,aL,aP,aO,aQ,aR,aU,aV,aY,aZ,a3,hI⟩
      obtain rfl:=aE cA
      refine ac ?_
      exact ⟨aB,aC,aA,aD,ax,aF,aE,fun _=>rfl,aI,aM,ah,aj,ar,aJ,aK,aL,aP,aO,aQ,aR,aU,aV,aY,aZ,a3,hI⟩
     ·intro D a6 cA ch cr ct cD cH cF cE cG cB cC cX cI cJ cv cd cf ce bD bE cO cQ cR cM cP cN w_
      rintro ⟨aB,aC,aA,aD,ax,aF,aE,aG,aI,aM,ah,aj,ar,aJ,aK,aL,aP,aO,aQ,aR,aU,aV,aY,aZ,a3,hI⟩
      obtain rfl:=aE cA
      refine ac ?_
      exact ⟨aB,aC,aA,aD,ax,aF,aE,aG,fun _=>rfl,aM,ah,aj,ar,aJ,aK,aL,aP,aO,aQ,aR,aU,aV,aY,aZ,a3,hI⟩
     ·intro D a6 cA ch cr ct cD cH cF cE cG cB cC cX cI cJ cv cd cf ce bD bE cO cQ cR cM cP cN w_
      rintro ⟨aB,aC,aA,aD,ax,aF,aE,aG,aI,aM,ah,aj,ar,aJ,aK,aL,aP,aO,aQ,aR,aU,aV,aY,aZ,a3,hI⟩
      obtain rfl:=aE cA
      refine ac ?_
      exact ⟨aB,aC,aA,aD,ax,aF,aE,aG,aI,fun _=>rfl,ah,aj,ar,aJ,aK,aL,aP,aO,aQ,aR,aU,aV,aY,aZ,a3,hI⟩
     ·intro D a6 cA ch cr ct cD cH cF cE cG cB cC cX cI cJ cv cd cf ce bD bE cO cQ cR cM cP cN w_
      rintro ⟨aB,aC,aA,aD,ax,aF,aE,aG,aI,aM,ah,aj,ar,aJ,aK,aL,aP,aO,aQ,aR,aU,aV,aY,aZ,a3,hI⟩
      obtain rfl:=aE cA
      refine ac ?_
      exact ⟨aB,aC,aA,aD,ax,aF,aE,aG,aI,aM,fun _=>rfl,aj,ar,aJ,aK,aL,aP,aO,aQ,aR,aU,aV,aY,aZ,a3,hI⟩
     ·intro D a6 xg ii lk ch cr ct cD cH cF cE cG cB cC cX cI cJ cv cd cf ce bD bE cO cQ cR cM cP cN w_
      rintro ⟨aB,aC,aA,aD,ax,aF,aE,aG,aI,aM,ah,aj,ar,aJ,aK,aL,aP,aO,aQ,aR,aU,aV,aY,aZ,a3,hI⟩
      obtain rfl:=aM xg
      obtain rfl:=ah ii
      obtain rfl:=aE lk
      refine ac ?_; refine bC (by omega) ?_
      exact ⟨aB,aC,aA,aD,ax,aF,aE,aG,aI,aM,ah,fun _=>rfl,ar,aJ,aK,aL,aP,aO,aQ,aR,aU,aV,aY,aZ,a3,hI⟩
     ·intro D a6 dl gf zV zI ch cr ct cD cH cF cE cG cB cC cX cI cJ cv cd cf ce bD bE cO cQ cR cM cP cN w_
      rintro ⟨aB,aC,aA,aD,ax,aF,aE,aG,aI,aM,ah,aj,ar,aJ,aK,aL,aP,aO,aQ,aR,aU,aV,aY,aZ,a3,hI⟩
      obtain rfl:=aG dl
      obtain rfl:=aI gf
      obtain rfl:=aj zV
      obtain rfl:=aE zI
      refine ac ?_; refine uj a7 (by omega) (by omega) ?_
      exact ⟨aB,aC,aA,aD,ax,aF,aE,aG,aI,aM,ah,aj,fun _=>rfl,aJ,aK,aL,aP,aO,aQ,aR,aU,aV,aY,aZ,a3,hI⟩
     ·intro D a6 cA ch cr ct cD cH cF cE cG cB cC cX cI cJ cv cd cf ce bD bE cO cQ cR cM cP cN w_
      rintro ⟨aB,aC,aA,aD,ax,aF,aE,aG,aI,aM,ah,aj,ar,aJ,aK,aL,aP,aO,aQ,aR,aU,aV,aY,aZ,a3,hI⟩
      obtain rfl:=aE cA
      refine ac ?_
      exact ⟨aB,aC,aA,aD,ax,aF,aE,aG,aI,aM,ah,aj,ar,fun _=>rfl,aK,aL,aP,aO,aQ,aR,aU,aV,aY,aZ,a3,hI⟩
     ·intro D a6 cA ch cr ct cD cH cF cE cG cB cC cX cI cJ cv cd cf ce bD bE cO cQ cR cM cP cN w_
      rintro ⟨aB,aC,aA,aD,ax,aF,aE,aG,aI,aM,ah,aj,ar,aJ,aK,aL,aP,aO,aQ,aR,aU,aV,aY,aZ,a3,hI⟩
      obtain rfl:=aE cA
      refine ac ?_
      exact ⟨aB,aC,aA,aD,ax,aF,aE,aG,aI,aM,ah,aj,ar,aJ,fun _=>rfl,aL,aP,aO,aQ,aR,aU,aV,aY,aZ,a3,hI⟩
     ·intro D a6 iw wK lk ch cr ct cD cH cF cE cG cB cC cX cI cJ cv cd cf ce bD bE cO cQ cR cM cP cN w_
      rintro ⟨aB,aC,aA,aD,ax,aF,aE,aG,aI,aM,ah,aj,ar,aJ,aK,aL,aP,aO,aQ,aR,aU,aV,aY,aZ,a3,hI⟩
      obtain rfl:=aJ iw
      obtain rfl:=aK wK
      obtain rfl:=aE lk
      refine ac ?_; refine ba cg hj ?_
      exact ⟨aB,aC,aA,aD,ax,aF,aE,aG,aI,aM,ah,aj,ar,aJ,aK,fun _=>rfl,aP,aO,aQ,aR,aU,aV,aY,aZ,a3,hI⟩
     ·intro D a6 sX jh ch cr ct cD cH cF cE cG cB cC cX cI cJ cv cd cf ce bD bE cO cQ cR cM cP cN w_
      rintro ⟨aB,aC,aA,aD,ax,aF,aE,aG,aI,aM,ah,aj,ar,aJ,aK,aL,aP,aO,aQ,aR,aU,aV,aY,aZ,a3,hI⟩
      obtain rfl:=aL sX
      obtain rfl:=aE jh
      refine ac ?_; refine eo bi ((hI.cellS hS).trans hcx) ?_
      exact ⟨aB,aC,aA,aD,ax,aF,aE,aG,aI,aM,ah,aj,ar,aJ,aK,aL,fun _=>rfl,aO,aQ,aR,aU,aV,aY,aZ,a3,hI⟩
     ·intro D a6 kf rn lk ch cr ct cD cH cF cE cG cB cC cX cI cJ cv cd cf ce bD bE cO cQ cR cM cP cN w_
      rintro ⟨aB,aC,aA,aD,ax,aF,aE,aG,aI,aM,ah,aj,ar,aJ,aK,aL,aP,aO,aQ,aR,aU,aV,aY,aZ,a3,hI⟩
      obtain rfl:=ar kf
      obtain rfl:=aP rn
      obtain rfl:=aE lk
      refine ac ?_; refine dj ?_; rw [hq]
      exact ⟨aB,aC,aA,aD,ax,aF,aE,aG,aI,aM,ah,aj,ar,aJ,aK,aL,aP,fun _=>rfl,aQ,aR,aU,aV,aY,aZ,a3,hI⟩
     ·intro D a6 cA AB ch cr ct cD cH cF cE cG cB cC cX cI cJ cv cd cf ce bD bE cO cQ cR cM cP cN w_
      rintro ⟨aB,aC,aA,aD,ax,aF,aE,aG,aI,aM,ah,aj,ar,aJ,aK,aL,aP,aO,aQ,aR,aU,aV,aY,aZ,a3,hI⟩
      obtain rfl:=aE cA
      obtain rfl:=aO AB
      refine al ?_
      exact ⟨aB,aC,aA,aD,ax,aF,aE,aG,aI,aM,ah,aj,ar,aJ,aK,aL,aP,aO,fun _=>rfl,aR,aU,aV,aY,aZ,a3,hI⟩
     ·intro D a6 un jh ch cr ct cD cH cF cE cG cB cC cX cI cJ cv cd cf ce bD bE cO cQ cR cM cP cN w_
      rintro ⟨aB,aC,aA,aD,ax,aF,aE,aG,aI,aM,ah,aj,ar,aJ,aK,aL,aP,aO,aQ,aR,aU,aV,aY,aZ,a3,hI⟩
      obtain rfl:=aQ un
      exact ⟨aB,aC,aA,aD,ax,aF,aE,aG,aI,aM,ah,aj,ar,aJ,aK,aL,aP,aO,aQ,fun _=>rfl,aU,aV,aY,aZ,a3,hI⟩
     ·intro D a6 fw ch cr ct cD cH cF cE cG cB cC cX cI cJ cv cd cf ce bD bE cO cQ cR cM cP cN w_
      rintro ⟨aB,aC,aA,aD,ax,aF,aE,aG,aI,aM,ah,aj,ar,aJ,aK,aL,aP,aO,aQ,aR,aU,aV,aY,aZ,a3,hI⟩
      obtain rfl:=aR fw
      refine af (c:=false) (b:=true) (by decide) ?_
      exact ⟨aB,aC,aA,aD,ax,aF,aE,aG,aI,aM,ah,aj,ar,aJ,aK,aL,aP,aO,aQ,aR,fun _=>rfl,aV,aY,aZ,a3,hI⟩
     ·intro D a6 fw ch cr ct cD cH cF cE cG cB cC cX cI cJ cv cd cf ce bD bE cO cQ cR cM cP cN w_
      rintro ⟨aB,aC,aA,aD,ax,aF,aE,aG,aI,aM,ah,aj,ar,aJ,aK,aL,aP,aO,aQ,aR,aU,aV,aY,aZ,a3,hI⟩
      obtain rfl:=aR fw
      refine af (c:=false) (b:=true) (by decide) ?_
      exact ⟨aB,aC,aA,aD,ax,aF,aE,aG,aI,aM,ah,aj,ar,aJ,aK,aL,aP,aO,aQ,aR,aU,fun _=>rfl,aY,aZ,a3,hI⟩
     ·intro D a6 tG zK ch cr ct cD cH cF cE cG cB cC cX cI cJ cv cd cf ce bD bE cO cQ cR cM cP cN w_
      rintro ⟨aB,aC,aA,aD,ax,aF,aE,aG,aI,aM,ah,aj,ar,aJ,aK,aL,aP,aO,aQ,aR,aU,aV,aY,aZ,a3,hI⟩
      obtain rfl:=aV tG
      obtain rfl:=aR zK
      refine af (c:=false) (b:=true) (by decide) ?_
      exact ⟨aB,aC,aA,aD,ax,aF,aE,aG,aI,aM,ah,aj,ar,aJ,aK,aL,aP,aO,aQ,aR,aU,aV,fun _=>rfl,aZ,a3,hI⟩
     ·intro D a6 uF yO Aw ch cr ct cD cH cF cE cG cB cC cX cI cJ cv cd cf ce bD bE cO cQ cR cM cP cN w_
      rintro ⟨aB,aC,aA,aD,ax,aF,aE,aG,aI,aM,ah,aj,ar,aJ,aK,aL,aP,aO,aQ,aR,aU,aV,aY,aZ,a3,hI⟩
      obtain rfl:=aU uF
      obtain rfl:=aY yO
      obtain rfl:=aR Aw
      refine af (c:=false) (b:=true) (by decide) ?_
      exact ⟨aB,aC,aA,aD,ax,aF,aE,aG,aI,aM,ah,aj,ar,aJ,aK,aL,aP,aO,aQ,aR,aU,aV,aY,fun _=>rfl,a3,hI⟩
     ·intro D a6 fw za ch cr ct cD cH cF cE cG cB cC cX cI cJ cv cd cf ce bD bE cO cQ cR cM cP cN w_
      rintro ⟨aB,aC,aA,aD,ax,aF,aE,aG,aI,aM,ah,aj,ar,aJ,aK,aL,aP,aO,aQ,aR,aU,aV,aY,aZ,a3,hI⟩
      obtain rfl:=aR fw
      obtain rfl:=aZ za
      refine ak ?_
      exact ⟨aB,aC,aA,aD,ax,aF,aE,aG,aI,aM,ah,aj,ar,aJ,aK,aL,aP,aO,aQ,aR,aU,aV,aY,aZ,fun _=>rfl,hI⟩
     intro D Br Cm A6 xi ye xG uQ sU sR oI pe qu i5 eR eX jG io gc gp f1 fL fJ fP fN fO ch cr ct cD cH cF cE cG cB cC cX cI cJ cv cd cf ce bD bE cO cQ cR cM cP cN w_
     rintro ⟨aB,aC,aA,aD,ax,aF,aE,aG,aI,aM,ah,aj,ar,aJ,aK,aL,aP,aO,aQ,aR,aU,aV,aY,aZ,a3,hI⟩
     obtain rfl:=a3 Br
     obtain rfl:=aZ Cm
     obtain rfl:=aY A6
     obtain rfl:=aV xi
     obtain rfl:=aU ye
     obtain rfl:=aR xG
     obtain rfl:=aQ uQ
     obtain rfl:=aO sU
     obtain rfl:=aP sR
     obtain rfl:=aL oI
     obtain rfl:=aK pe
     obtain rfl:=aJ qu
     obtain rfl:=ar i5
     obtain rfl:=aj eR
     obtain rfl:=ah eX
     obtain rfl:=aM jG
     obtain rfl:=aI io
     obtain rfl:=aG gc
     obtain rfl:=aE gp
     obtain rfl:=aF f1
     obtain rfl:=ax fL
     obtain rfl:=aD fJ
     obtain rfl:=aA fP
     obtain rfl:=aC fN
     obtain rfl:=aB fO
     clear aB aC aA aD ax aF aE aG aI aM ah aj ar aJ aK aL aP aO aQ aR aU aV aY aZ a3
     refine aX (fun hb=>by cases hb) (fun _=>?_)
     refine ⟨best,rfl,hbl,?_,hI⟩
     rw [if_neg] at hbest
     ·exact hbest
     ·rintro ⟨_,h2,_⟩
      rw [decide_eq_false_iff_not] at hq
      exact hq (by rw [h2])
    ·rw [decide_eq_true_eq] at hq
     have hq':=hq
     have hq:decide (st (cut s i (i+x.size))=x)=true:=decide_eq_true hq'
     skip
     refine ⟨fun D ch cr ct cD cH cF cE cG cB cC cX cI cJ cv cd cf ce bD bE cO cQ cR cM cP cN w_=>(D 0=true->cN=.int .i64 (i:Int))/\(D 1=true->cP=.int .i64 (x.size:Int))/\(D 2=true->cM=.int .i64 ((i+x.size:Nat):Int))/\(D 3=true->cR=.string (st s))/\(D 4=true->cQ=.int .i64 (s.length:Int))/\(D 5=true->cO=.bool true)/\(D 6=true->bE=.bool true)/\(D 7=true->bD=.string (st s))/\(D 8=true->ce=.int .i64 (i:Int))/\(D 9=true->cf=.int .i64 (i:Int))/\(D 10=true->cd=.int .i64 (x.size:Int))/\(D 11=true->cv=.int .i64 ((i+x.size:Nat):Int))/\(D 12=true->cJ=.string (st (cut s i (i+x.size))))/\(D 13=true->cI=.slice (some ⟨b,o,none⟩) signs.length cap)/\(D 14=true->cX=.int .i64 (j:Int))/\(D 15=true->cC=.pointer (some ⟨b,o+j * 1,none⟩))/\(D 16=true->cB=.string x)/\(D 17=true->cG=.bool true)/\(D 18=true->cE=.bool true)/\(D 19=true->cF=.bool true)/\(D 20=true->cH=.int .i64 (x.size:Int))/\(D 21=true->cD=.string (st best))/\(D 22=true->ct=.int .i64 (best.length:Int))/\(D 23=true->cr=.bool (decide ((best.length:Int)<(x.size:Int))))/\(D 24=true->ch=.bool (decide ((best.length:Int)<(x.size:Int))))/\Inv w [] [] S1 w_,⟨ae,ae,ae,ae,ae,ae,ae,ae,ae,ae,ae,ae,ae,ae,ae,ae,ae,ae,ae,ae,ae,ae,ae,ae,ae,hI.draw⟩,⟨?_,?_,?_,?_,?_,?_,?_,?_,?_,?_,?_,?_,?_,?_,?_,?_,?_,?_,?_,?_,?_,?_,?_,?_,?_,trivial⟩,?_⟩
     ·intro D a6  ch cr ct cD cH cF cE cG cB cC cX cI cJ cv cd cf ce bD bE cO cQ cR cM cP cN w_
      rintro ⟨aB,aC,aA,aD,ax,aF,aE,aG,aI,aM,ah,aj,ar,aJ,aK,aL,aP,aO,aQ,aR,aU,aV,aY,aZ,a3,hI⟩
      exact ⟨fun _=>rfl,aC,aA,aD,ax,aF,aE,aG,aI,aM,ah,aj,ar,aJ,aK,aL,aP,aO,aQ,aR,aU,aV,aY,aZ,a3,hI⟩
     ·intro D a6  ch cr ct cD cH cF cE cG cB cC cX cI cJ cv cd cf ce bD bE cO cQ cR cM cP cN w_
      rintro ⟨aB,aC,aA,aD,ax,aF,aE,aG,aI,aM,ah,aj,ar,aJ,aK,aL,aP,aO,aQ,aR,aU,aV,aY,aZ,a3,hI⟩
      exact ⟨aB,fun _=>rfl,aA,aD,ax,aF,aE,aG,aI,aM,ah,aj,ar,aJ,aK,aL,aP,aO,aQ,aR,aU,aV,aY,aZ,a3,hI⟩
     ·intro D a6 cV gH ch cr ct cD cH cF cE cG cB cC cX cI cJ cv cd cf ce bD bE cO cQ cR cM cP cN w_
      rintro ⟨aB,aC,aA,aD,ax,aF,aE,aG,aI,aM,ah,aj,ar,aJ,aK,aL,aP,aO,aQ,aR,aU,aV,aY,aZ,a3,hI⟩
      obtain rfl:=aB cV
      obtain rfl:=aC gH
      refine bC (by omega) ?_
      exact ⟨aB,aC,fun _=>rfl,aD,ax,aF,aE,aG,aI,aM,ah,aj,ar,aJ,aK,aL,aP,aO,aQ,aR,aU,aV,aY,aZ,a3,hI⟩
     ·intro D a6  ch cr ct cD cH cF cE cG cB cC cX cI cJ cv cd cf ce bD bE cO cQ cR cM cP cN w_
      rintro ⟨aB,aC,aA,aD,ax,aF,aE,aG,aI,aM,ah,aj,ar,aJ,aK,aL,aP,aO,aQ,aR,aU,aV,aY,aZ,a3,hI⟩
      exact ⟨aB,aC,aA,fun _=>rfl,ax,aF,aE,aG,aI,aM,ah,aj,ar,aJ,aK,aL,aP,aO,aQ,aR,aU,aV,aY,aZ,a3,hI⟩
     ·intro D a6 dg ch cr ct cD cH cF cE cG cB cC cX cI cJ cv cd cf ce bD bE cO cQ cR cM cP cN w_
      rintro ⟨aB,aC,aA,aD,ax,aF,aE,aG,aI,aM,ah,aj,ar,aJ,aK,aL,aP,aO,aQ,aR,aU,aV,aY,aZ,a3,hI⟩
      obtain rfl:=aD dg
      refine ek a7 ?_
      exact ⟨aB,aC,aA,aD,fun _=>rfl,aF,aE,aG,aI,aM,ah,aj,ar,aJ,aK,aL,aP,aO,aQ,aR,aU,aV,aY,aZ,a3,hI⟩
     ·intro D a6 eL dW ch cr ct cD cH cF cE cG cB cC cX cI cJ cv cd cf ce bD bE cO cQ cR cM cP cN w_
      rintro ⟨aB,aC,aA,aD,ax,aF,aE,aG,aI,aM,ah,aj,ar,aJ,aK,aL,aP,aO,aQ,aR,aU,aV,aY,aZ,a3,hI⟩
      obtain rfl:=aA eL
      obtain rfl:=ax dW
      refine tT (by omega) ?_
      exact ⟨aB,aC,aA,aD,ax,fun _=>rfl,aE,aG,aI,aM,ah,aj,ar,aJ,aK,aL,aP,aO,aQ,aR,aU,aV,aY,aZ,a3,hI⟩
     ·intro D a6 ef ch cr ct cD cH cF cE cG cB cC cX cI cJ cv cd cf ce bD bE cO cQ cR cM cP cN w_
      rintro ⟨aB,aC,aA,aD,ax,aF,aE,aG,aI,aM,ah,aj,ar,aJ,aK,aL,aP,aO,aQ,aR,aU,aV,aY,aZ,a3,hI⟩
      obtain rfl:=aF ef
      exact ⟨aB,aC,aA,aD,ax,aF,fun _=>rfl,aG,aI,aM,ah,aj,ar,aJ,aK,aL,aP,aO,aQ,aR,aU,aV,aY,aZ,a3,hI⟩
     ·intro D a6 cA ch cr ct cD cH cF cE cG cB cC cX cI cJ cv cd cf ce bD bE cO cQ cR cM cP cN w_
      rintro ⟨aB,aC,aA,aD,ax,aF,aE,aG,aI,aM,ah,aj,ar,aJ,aK,aL,aP,aO,aQ,aR,aU,aV,aY,aZ,a3,hI⟩
      obtain rfl:=aE cA
      refine ac ?_
      exact ⟨aB,aC,aA,aD,ax,aF,aE,fun _=>rfl,aI,aM,ah,aj,ar,aJ,aK,aL,aP,aO,aQ,aR,aU,aV,aY,aZ,a3,hI⟩
     ·intro D a6 cA ch cr ct cD cH cF cE cG cB cC cX cI cJ cv cd cf ce bD bE cO cQ cR cM cP cN w_
      rintro ⟨aB,aC,aA,aD,ax,aF,aE,aG,aI,aM,ah,aj,ar,aJ,aK,aL,aP,aO,aQ,aR,aU,aV,aY,aZ,a3,hI⟩
      obtain rfl:=aE cA
      refine ac ?_
      exact ⟨aB,aC,aA,aD,ax,aF,aE,aG,fun _=>rfl,aM,ah,aj,ar,aJ,aK,aL,aP,aO,aQ,aR,aU,aV,aY,aZ,a3,hI⟩
     ·intro D a6 cA ch cr ct cD cH cF cE cG cB cC cX cI cJ cv cd cf ce bD bE cO cQ cR cM cP cN w_
      rintro ⟨aB,aC,aA,aD,ax,aF,aE,aG,aI,aM,ah,aj,ar,aJ,aK,aL,aP,aO,aQ,aR,aU,aV,aY,aZ,a3,hI⟩
      obtain rfl:=aE cA
      refine ac ?_
      exact ⟨aB,aC,aA,aD,ax,aF,aE,aG,aI,fun _=>rfl,ah,aj,ar,aJ,aK,aL,aP,aO,aQ,aR,aU,aV,aY,aZ,a3,hI⟩
     ·intro D a6 cA ch cr ct cD cH cF cE cG cB cC cX cI cJ cv cd cf ce bD bE cO cQ cR cM cP cN w_
      rintro ⟨aB,aC,aA,aD,ax,aF,aE,aG,aI,aM,ah,aj,ar,aJ,aK,aL,aP,aO,aQ,aR,aU,aV,aY,aZ,a3,hI⟩
      obtain rfl:=aE cA
      refine ac ?_
      exact ⟨aB,aC,aA,aD,ax,aF,aE,aG,aI,aM,fun _=>rfl,aj,ar,aJ,aK,aL,aP,aO,aQ,aR,aU,aV,aY,aZ,a3,hI⟩
     ·intro D a6 xg ii lk ch cr ct cD cH cF cE cG cB cC cX cI cJ cv cd cf ce bD bE cO cQ cR cM cP cN w_
      rintro ⟨aB,aC,aA,aD,ax,aF,aE,aG,aI,aM,ah,aj,ar,aJ,aK,aL,aP,aO,aQ,aR,aU,aV,aY,aZ,a3,hI⟩
      obtain rfl:=aM xg
      obtain rfl:=ah ii
      obtain rfl:=aE lk
      refine ac ?_; refine bC (by omega) ?_
      exact ⟨aB,aC,aA,aD,ax,aF,aE,aG,aI,aM,ah,fun _=>rfl,ar,aJ,aK,aL,aP,aO,aQ,aR,aU,aV,aY,aZ,a3,hI⟩
     ·intro D a6 dl gf zV zI ch cr ct cD cH cF cE cG cB cC cX cI cJ cv cd cf ce bD bE cO cQ cR cM cP cN w_
      rintro ⟨aB,aC,aA,aD,ax,aF,aE,aG,aI,aM,ah,aj,ar,aJ,aK,aL,aP,aO,aQ,aR,aU,aV,aY,aZ,a3,hI⟩
      obtain rfl:=aG dl
      obtain rfl:=aI gf
      obtain rfl:=aj zV
      obtain rfl:=aE zI
      refine ac ?_; refine uj a7 (by omega) (by omega) ?_
      exact ⟨aB,aC,aA,aD,ax,aF,aE,aG,aI,aM,ah,aj,fun _=>rfl,aJ,aK,aL,aP,aO,aQ,aR,aU,aV,aY,aZ,a3,hI⟩
     ·intro D a6 cA ch cr ct cD cH cF cE cG cB cC cX cI cJ cv cd cf ce bD bE cO cQ cR cM cP cN w_
      rintro ⟨aB,aC,aA,aD,ax,aF,aE,aG,aI,aM,ah,aj,ar,aJ,aK,aL,aP,aO,aQ,aR,aU,aV,aY,aZ,a3,hI⟩
      obtain rfl:=aE cA
      refine ac ?_
      exact ⟨aB,aC,aA,aD,ax,aF,aE,aG,aI,aM,ah,aj,ar,fun _=>rfl,aK,aL,aP,aO,aQ,aR,aU,aV,aY,aZ,a3,hI⟩
     ·intro D a6 cA ch cr ct cD cH cF cE cG cB cC cX cI cJ cv cd cf ce bD bE cO cQ cR cM cP cN w_
      rintro ⟨aB,aC,aA,aD,ax,aF,aE,aG,aI,aM,ah,aj,ar,aJ,aK,aL,aP,aO,aQ,aR,aU,aV,aY,aZ,a3,hI⟩
      obtain rfl:=aE cA
      refine ac ?_
      exact ⟨aB,aC,aA,aD,ax,aF,aE,aG,aI,aM,ah,aj,ar,aJ,fun _=>rfl,aL,aP,aO,aQ,aR,aU,aV,aY,aZ,a3,hI⟩
     ·intro D a6 iw wK lk ch cr ct cD cH cF cE cG cB cC cX cI cJ cv cd cf ce bD bE cO cQ cR cM cP cN w_
      rintro ⟨aB,aC,aA,aD,ax,aF,aE,aG,aI,aM,ah,aj,ar,aJ,aK,aL,aP,aO,aQ,aR,aU,aV,aY,aZ,a3,hI⟩
      obtain rfl:=aJ iw
      obtain rfl:=aK wK
      obtain rfl:=aE lk
      refine ac ?_; refine ba cg hj ?_
      exact ⟨aB,aC,aA,aD,ax,aF,aE,aG,aI,aM,ah,aj,ar,aJ,aK,fun _=>rfl,aP,aO,aQ,aR,aU,aV,aY,aZ,a3,hI⟩
     ·intro D a6 sX jh ch cr ct cD cH cF cE cG cB cC cX cI cJ cv cd cf ce bD bE cO cQ cR cM cP cN w_
      rintro ⟨aB,aC,aA,aD,ax,aF,aE,aG,aI,aM,ah,aj,ar,aJ,aK,aL,aP,aO,aQ,aR,aU,aV,aY,aZ,a3,hI⟩
      obtain rfl:=aL sX
      obtain rfl:=aE jh
      refine ac ?_; refine eo bi ((hI.cellS hS).trans hcx) ?_
      exact ⟨aB,aC,aA,aD,ax,aF,aE,aG,aI,aM,ah,aj,ar,aJ,aK,aL,fun _=>rfl,aO,aQ,aR,aU,aV,aY,aZ,a3,hI⟩
     ·intro D a6 kf rn lk ch cr ct cD cH cF cE cG cB cC cX cI cJ cv cd cf ce bD bE cO cQ cR cM cP cN w_
      rintro ⟨aB,aC,aA,aD,ax,aF,aE,aG,aI,aM,ah,aj,ar,aJ,aK,aL,aP,aO,aQ,aR,aU,aV,aY,aZ,a3,hI⟩
      obtain rfl:=ar kf
      obtain rfl:=aP rn
      obtain rfl:=aE lk
      refine ac ?_; refine dj ?_; rw [hq]
      exact ⟨aB,aC,aA,aD,ax,aF,aE,aG,aI,aM,ah,aj,ar,aJ,aK,aL,aP,fun _=>rfl,aQ,aR,aU,aV,aY,aZ,a3,hI⟩
     ·intro D a6 cA AB ch cr ct cD cH cF cE cG cB cC cX cI cJ cv cd cf ce bD bE cO cQ cR cM cP cN w_
      rintro ⟨aB,aC,aA,aD,ax,aF,aE,aG,aI,aM,ah,aj,ar,aJ,aK,aL,aP,aO,aQ,aR,aU,aV,aY,aZ,a3,hI⟩
      obtain rfl:=aE cA
      obtain rfl:=aO AB
      refine al ?_
      exact ⟨aB,aC,aA,aD,ax,aF,aE,aG,aI,aM,ah,aj,ar,aJ,aK,aL,aP,aO,fun _=>rfl,aR,aU,aV,aY,aZ,a3,hI⟩
     ·intro D a6 un jh ch cr ct cD cH cF cE cG cB cC cX cI cJ cv cd cf ce bD bE cO cQ cR cM cP cN w_
      rintro ⟨aB,aC,aA,aD,ax,aF,aE,aG,aI,aM,ah,aj,ar,aJ,aK,aL,aP,aO,aQ,aR,aU,aV,aY,aZ,a3,hI⟩
      obtain rfl:=aQ un
      exact ⟨aB,aC,aA,aD,ax,aF,aE,aG,aI,aM,ah,aj,ar,aJ,aK,aL,aP,aO,aQ,fun _=>rfl,aU,aV,aY,aZ,a3,hI⟩
     ·intro D a6 fw ch cr ct cD cH cF cE cG cB cC cX cI cJ cv cd cf ce bD bE cO cQ cR cM cP cN w_
      rintro ⟨aB,aC,aA,aD,ax,aF,aE,aG,aI,aM,ah,aj,ar,aJ,aK,aL,aP,aO,aQ,aR,aU,aV,aY,aZ,a3,hI⟩
      obtain rfl:=aR fw
      refine ac ?_
      exact ⟨aB,aC,aA,aD,ax,aF,aE,aG,aI,aM,ah,aj,ar,aJ,aK,aL,aP,aO,aQ,aR,fun _=>rfl,aV,aY,aZ,a3,hI⟩
     ·intro D a6 fw ch cr ct cD cH cF cE cG cB cC cX cI cJ cv cd cf ce bD bE cO cQ cR cM cP cN w_
      rintro ⟨aB,aC,aA,aD,ax,aF,aE,aG,aI,aM,ah,aj,ar,aJ,aK,aL,aP,aO,aQ,aR,aU,aV,aY,aZ,a3,hI⟩
      obtain rfl:=aR fw
      refine ac ?_
      exact ⟨aB,aC,aA,aD,ax,aF,aE,aG,aI,aM,ah,aj,ar,aJ,aK,aL,aP,aO,aQ,aR,aU,fun _=>rfl,aY,aZ,a3,hI⟩
     ·intro D a6 tG zK ch cr ct cD cH cF cE cG cB cC cX cI cJ cv cd cf ce bD bE cO cQ cR cM cP cN w_
      rintro ⟨aB,aC,aA,aD,ax,aF,aE,aG,aI,aM,ah,aj,ar,aJ,aK,aL,aP,aO,aQ,aR,aU,aV,aY,aZ,a3,hI⟩
      obtain rfl:=aV tG
      obtain rfl:=aR zK
      refine ac ?_; refine ek a7 ?_
      exact ⟨aB,aC,aA,aD,ax,aF,aE,aG,aI,aM,ah,aj,ar,aJ,aK,aL,aP,aO,aQ,aR,aU,aV,fun _=>rfl,aZ,a3,hI⟩
     ·intro D a6 uF yO Aw ch cr ct cD cH cF cE cG cB cC cX cI cJ cv cd cf ce bD bE cO cQ cR cM cP cN w_
      rintro ⟨aB,aC,aA,aD,ax,aF,aE,aG,aI,aM,ah,aj,ar,aJ,aK,aL,aP,aO,aQ,aR,aU,aV,aY,aZ,a3,hI⟩
      obtain rfl:=aU uF
      obtain rfl:=aY yO
      obtain rfl:=aR Aw
      refine ac ?_; refine dS ?_
      exact ⟨aB,aC,aA,aD,ax,aF,aE,aG,aI,aM,ah,aj,ar,aJ,aK,aL,aP,aO,aQ,aR,aU,aV,aY,fun _=>rfl,a3,hI⟩
     ·intro D a6 fw za ch cr ct cD cH cF cE cG cB cC cX cI cJ cv cd cf ce bD bE cO cQ cR cM cP cN w_
      rintro ⟨aB,aC,aA,aD,ax,aF,aE,aG,aI,aM,ah,aj,ar,aJ,aK,aL,aP,aO,aQ,aR,aU,aV,aY,aZ,a3,hI⟩
      obtain rfl:=aR fw
      obtain rfl:=aZ za
      refine al ?_
      exact ⟨aB,aC,aA,aD,ax,aF,aE,aG,aI,aM,ah,aj,ar,aJ,aK,aL,aP,aO,aQ,aR,aU,aV,aY,aZ,fun _=>rfl,hI⟩
     intro D Br Cm A6 xi ye xG uQ sU sR oI pe qu i5 eR eX jG io gc gp f1 fL fJ fP fN fO ch cr ct cD cH cF cE cG cB cC cX cI cJ cv cd cf ce bD bE cO cQ cR cM cP cN w_
     rintro ⟨aB,aC,aA,aD,ax,aF,aE,aG,aI,aM,ah,aj,ar,aJ,aK,aL,aP,aO,aQ,aR,aU,aV,aY,aZ,a3,hI⟩
     obtain rfl:=a3 Br
     obtain rfl:=aZ Cm
     obtain rfl:=aY A6
     obtain rfl:=aV xi
     obtain rfl:=aU ye
     obtain rfl:=aR xG
     obtain rfl:=aQ uQ
     obtain rfl:=aO sU
     obtain rfl:=aP sR
     obtain rfl:=aL oI
     obtain rfl:=aK pe
     obtain rfl:=aJ qu
     obtain rfl:=ar i5
     obtain rfl:=aj eR
     obtain rfl:=ah eX
     obtain rfl:=aM jG
     obtain rfl:=aI io
     obtain rfl:=aG gc
     obtain rfl:=aE gp
     obtain rfl:=aF f1
     obtain rfl:=ax fL
     obtain rfl:=aD fJ
     obtain rfl:=aA fP
     obtain rfl:=aC fN
     obtain rfl:=aB fO
     clear aB aC aA aD ax aF aE aG aI aM ah aj ar aJ aK aL aP aO aQ aR aU aV aY aZ a3
     have hcut:cut s i (i+x.size)=bs x:=by rw [<- wu (cut s i (i+x.size)),hq']
     refine bp (fun hb=>?_) (fun hb=>?_)
     ·refine ba cg hj ?_
      refine eo bi ((hI.cellS hS).trans hcx) ?_
      refine ⟨bs x,rfl,by rw [<- hcut,xW hlen]; omega,?_,hI⟩
      rw [if_pos ⟨decide_eq_true hlen,hcut,by omega⟩] at hbest
      exact hbest
     ·refine ⟨best,rfl,hbl,?_,hI⟩
      rw [if_neg] at hbest
      ·exact hbest
      ·rintro ⟨_,_,h3⟩
       omega
   ·skip
    refine ⟨fun D ch cr ct cD cH cF cE cG cB cC cX cI cJ cv cd cf ce bD bE cO cQ cR cM cP cN w_=>(D 0=true->cN=.int .i64 (i:Int))/\(D 1=true->cP=.int .i64 (x.size:Int))/\(D 2=true->cM=.int .i64 ((i+x.size:Nat):Int))/\(D 3=true->cR=.string (st s))/\(D 4=true->cQ=.int .i64 (s.length:Int))/\(D 5=true->cO=.bool false)/\(D 6=true->bE=.bool false)/\(D 7=true->bD=undef)/\(D 8=true->ce=undef)/\(D 9=true->cf=undef)/\(D 10=true->cd=undef)/\(D 11=true->cv=undef)/\(D 12=true->cJ=undef)/\(D 13=true->cI=undef)/\(D 14=true->cX=undef)/\(D 15=true->cC=undef)/\(D 16=true->cB=undef)/\(D 17=true->cG=undef)/\(D 18=true->cE=.bool false)/\(D 19=true->cF=.bool false)/\(D 20=true->cH=undef)/\(D 21=true->cD=undef)/\(D 22=true->ct=undef)/\(D 23=true->cr=undef)/\(D 24=true->ch=.bool false)/\Inv w [] [] S1 w_,⟨ae,ae,ae,ae,ae,ae,ae,ae,ae,ae,ae,ae,ae,ae,ae,ae,ae,ae,ae,ae,ae,ae,ae,ae,ae,hI.draw⟩,⟨?_,?_,?_,?_,?_,?_,?_,?_,?_,?_,?_,?_,?_,?_,?_,?_,?_,?_,?_,?_,?_,?_,?_,?_,?_,trivial⟩,?_⟩
    ·intro D a6  ch cr ct cD cH cF cE cG cB cC cX cI cJ cv cd cf ce bD bE cO cQ cR cM cP cN w_
     rintro ⟨aB,aC,aA,aD,ax,aF,aE,aG,aI,aM,ah,aj,ar,aJ,aK,aL,aP,aO,aQ,aR,aU,aV,aY,aZ,a3,hI⟩
     exact ⟨fun _=>rfl,aC,aA,aD,ax,aF,aE,aG,aI,aM,ah,aj,ar,aJ,aK,aL,aP,aO,aQ,aR,aU,aV,aY,aZ,a3,hI⟩
    ·intro D a6  ch cr ct cD cH cF cE cG cB cC cX cI cJ cv cd cf ce bD bE cO cQ cR cM cP cN w_
     rintro ⟨aB,aC,aA,aD,ax,aF,aE,aG,aI,aM,ah,aj,ar,aJ,aK,aL,aP,aO,aQ,aR,aU,aV,aY,aZ,a3,hI⟩
     exact ⟨aB,fun _=>rfl,aA,aD,ax,aF,aE,aG,aI,aM,ah,aj,ar,aJ,aK,aL,aP,aO,aQ,aR,aU,aV,aY,aZ,a3,hI⟩
    ·intro D a6 cV gH ch cr ct cD cH cF cE cG cB cC cX cI cJ cv cd cf ce bD bE cO cQ cR cM cP cN w_
     rintro ⟨aB,aC,aA,aD,ax,aF,aE,aG,aI,aM,ah,aj,ar,aJ,aK,aL,aP,aO,aQ,aR,aU,aV,aY,aZ,a3,hI⟩
     obtain rfl:=aB cV
     obtain rfl:=aC gH
     refine bC (by omega) ?_
     exact ⟨aB,aC,fun _=>rfl,aD,ax,aF,aE,aG,aI,aM,ah,aj,ar,aJ,aK,aL,aP,aO,aQ,aR,aU,aV,aY,aZ,a3,hI⟩
    ·intro D a6  ch cr ct cD cH cF cE cG cB cC cX cI cJ cv cd cf ce bD bE cO cQ cR cM cP cN w_
     rintro ⟨aB,aC,aA,aD,ax,aF,aE,aG,aI,aM,ah,aj,ar,aJ,aK,aL,aP,aO,aQ,aR,aU,aV,aY,aZ,a3,hI⟩
     exact ⟨aB,aC,aA,fun _=>rfl,ax,aF,aE,aG,aI,aM,ah,aj,ar,aJ,aK,aL,aP,aO,aQ,aR,aU,aV,aY,aZ,a3,hI⟩
    ·intro D a6 dg ch cr ct cD cH cF cE cG cB cC cX cI cJ cv cd cf ce bD bE cO cQ cR cM cP cN w_
     rintro ⟨aB,aC,aA,aD,ax,aF,aE,aG,aI,aM,ah,aj,ar,aJ,aK,aL,aP,aO,aQ,aR,aU,aV,aY,aZ,a3,hI⟩
     obtain rfl:=aD dg
     refine ek a7 ?_
     exact ⟨aB,aC,aA,aD,fun _=>rfl,aF,aE,aG,aI,aM,ah,aj,ar,aJ,aK,aL,aP,aO,aQ,aR,aU,aV,aY,aZ,a3,hI⟩
    ·intro D a6 eL dW ch cr ct cD cH cF cE cG cB cC cX cI cJ cv cd cf ce bD bE cO cQ cR cM cP cN w_
     rintro ⟨aB,aC,aA,aD,ax,aF,aE,aG,aI,aM,ah,aj,ar,aJ,aK,aL,aP,aO,aQ,aR,aU,aV,aY,aZ,a3,hI⟩
     obtain rfl:=aA eL
     obtain rfl:=ax dW
     refine EM (by omega) ?_
     exact ⟨aB,aC,aA,aD,ax,fun _=>rfl,aE,aG,aI,aM,ah,aj,ar,aJ,aK,aL,aP,aO,aQ,aR,aU,aV,aY,aZ,a3,hI⟩
    ·intro D a6 ef ch cr ct cD cH cF cE cG cB cC cX cI cJ cv cd cf ce bD bE cO cQ cR cM cP cN w_
     rintro ⟨aB,aC,aA,aD,ax,aF,aE,aG,aI,aM,ah,aj,ar,aJ,aK,aL,aP,aO,aQ,aR,aU,aV,aY,aZ,a3,hI⟩
     obtain rfl:=aF ef
     exact ⟨aB,aC,aA,aD,ax,aF,fun _=>rfl,aG,aI,aM,ah,aj,ar,aJ,aK,aL,aP,aO,aQ,aR,aU,aV,aY,aZ,a3,hI⟩
    ·intro D a6 cA ch cr ct cD cH cF cE cG cB cC cX cI cJ cv cd cf ce bD bE cO cQ cR cM cP cN w_
     rintro ⟨aB,aC,aA,aD,ax,aF,aE,aG,aI,aM,ah,aj,ar,aJ,aK,aL,aP,aO,aQ,aR,aU,aV,aY,aZ,a3,hI⟩
     obtain rfl:=aE cA
     refine af (c:=false) (b:=true) (by decide) ?_
     exact ⟨aB,aC,aA,aD,ax,aF,aE,fun _=>rfl,aI,aM,ah,aj,ar,aJ,aK,aL,aP,aO,aQ,aR,aU,aV,aY,aZ,a3,hI⟩
    ·intro D a6 cA ch cr ct cD cH cF cE cG cB cC cX cI cJ cv cd cf ce bD bE cO cQ cR cM cP cN w_
     rintro ⟨aB,aC,aA,aD,ax,aF,aE,aG,aI,aM,ah,aj,ar,aJ,aK,aL,aP,aO,aQ,aR,aU,aV,aY,aZ,a3,hI⟩
     obtain rfl:=aE cA
     refine af (c:=false) (b:=true) (by decide) ?_
     exact ⟨aB,aC,aA,aD,ax,aF,aE,aG,fun _=>rfl,aM,ah,aj,ar,aJ,aK,aL,aP,aO,aQ,aR,aU,aV,aY,aZ,a3,hI⟩
    ·intro D a6 cA ch cr ct cD cH cF cE cG cB cC cX cI cJ cv cd cf ce bD bE cO cQ cR cM cP cN w_
     rintro ⟨aB,aC,aA,aD,ax,aF,aE,aG,aI,aM,ah,aj,ar,aJ,aK,aL,aP,aO,aQ,aR,aU,aV,aY,aZ,a3,hI⟩
     obtain rfl:=aE cA
     refine af (c:=false) (b:=true) (by decide) ?_
     exact ⟨aB,aC,aA,aD,ax,aF,aE,aG,aI,fun _=>rfl,ah,aj,ar,aJ,aK,aL,aP,aO,aQ,aR,aU,aV,aY,aZ,a3,hI⟩
    ·intro D a6 cA ch cr ct cD cH cF cE cG cB cC cX cI cJ cv cd cf ce bD bE cO cQ cR cM cP cN w_
     rintro ⟨aB,aC,aA,aD,ax,aF,aE,aG,aI,aM,ah,aj,ar,aJ,aK,aL,aP,aO,aQ,aR,aU,aV,aY,aZ,a3,hI⟩
     obtain rfl:=aE cA
     refine af (c:=false) (b:=true) (by decide) ?_
     exact ⟨aB,aC,aA,aD,ax,aF,aE,aG,aI,aM,fun _=>rfl,aj,ar,aJ,aK,aL,aP,aO,aQ,aR,aU,aV,aY,aZ,a3,hI⟩
    ·intro D a6 xg ii lk ch cr ct cD cH cF cE cG cB cC cX cI cJ cv cd cf ce bD bE cO cQ cR cM cP cN w_
     rintro ⟨aB,aC,aA,aD,ax,aF,aE,aG,aI,aM,ah,aj,ar,aJ,aK,aL,aP,aO,aQ,aR,aU,aV,aY,aZ,a3,hI⟩
     obtain rfl:=aM xg
     obtain rfl:=ah ii
     obtain rfl:=aE lk
     refine af (c:=false) (b:=true) (by decide) ?_
     exact ⟨aB,aC,aA,aD,ax,aF,aE,aG,aI,aM,ah,fun _=>rfl,ar,aJ,aK,aL,aP,aO,aQ,aR,aU,aV,aY,aZ,a3,hI⟩
    ·intro D a6 dl gf zV zI ch cr ct cD cH cF cE cG cB cC cX cI cJ cv cd cf ce bD bE cO cQ cR cM cP cN w_
     rintro ⟨aB,aC,aA,aD,ax,aF,aE,aG,aI,aM,ah,aj,ar,aJ,aK,aL,aP,aO,aQ,aR,aU,aV,aY,aZ,a3,hI⟩
     obtain rfl:=aG dl
     obtain rfl:=aI gf
     obtain rfl:=aj zV
     obtain rfl:=aE zI
     refine af (c:=false) (b:=true) (by decide) ?_
     exact ⟨aB,aC,aA,aD,ax,aF,aE,aG,aI,aM,ah,aj,fun _=>rfl,aJ,aK,aL,aP,aO,aQ,aR,aU,aV,aY,aZ,a3,hI⟩
    ·intro D a6 cA ch cr ct cD cH cF cE cG cB cC cX cI cJ cv cd cf ce bD bE cO cQ cR cM cP cN w_
     rintro ⟨aB,aC,aA,aD,ax,aF,aE,aG,aI,aM,ah,aj,ar,aJ,aK,aL,aP,aO,aQ,aR,aU,aV,aY,aZ,a3,hI⟩
     obtain rfl:=aE cA
     refine af (c:=false) (b:=true) (by decide) ?_
     exact ⟨aB,aC,aA,aD,ax,aF,aE,aG,aI,aM,ah,aj,ar,fun _=>rfl,aK,aL,aP,aO,aQ,aR,aU,aV,aY,aZ,a3,hI⟩
    ·intro D a6 cA ch cr ct cD cH cF cE cG cB cC cX cI cJ cv cd cf ce bD bE cO cQ cR cM cP cN w_
     rintro ⟨aB,aC,aA,aD,ax,aF,aE,aG,aI,aM,ah,aj,ar,aJ,aK,aL,aP,aO,aQ,aR,aU,aV,aY,aZ,a3,hI⟩
     obtain rfl:=aE cA
     refine af (c:=false) (b:=true) (by decide) ?_
     exact ⟨aB,aC,aA,aD,ax,aF,aE,aG,aI,aM,ah,aj,ar,aJ,fun _=>rfl,aL,aP,aO,aQ,aR,aU,aV,aY,aZ,a3,hI⟩
    ·intro D a6 iw wK lk ch cr ct cD cH cF cE cG cB cC cX cI cJ cv cd cf ce bD bE cO cQ cR cM cP cN w_
     rintro ⟨aB,aC,aA,aD,ax,aF,aE,aG,aI,aM,ah,aj,ar,aJ,aK,aL,aP,aO,aQ,aR,aU,aV,aY,aZ,a3,hI⟩
     obtain rfl:=aJ iw
     obtain rfl:=aK wK
     obtain rfl:=aE lk
     refine af (c:=false) (b:=true) (by decide) ?_
     exact ⟨aB,aC,aA,aD,ax,aF,aE,aG,aI,aM,ah,aj,ar,aJ,aK,fun _=>rfl,aP,aO,aQ,aR,aU,aV,aY,aZ,a3,hI⟩
    ·intro D a6 sX jh ch cr ct cD cH cF cE cG cB cC cX cI cJ cv cd cf ce bD bE cO cQ cR cM cP cN w_
     rintro ⟨aB,aC,aA,aD,ax,aF,aE,aG,aI,aM,ah,aj,ar,aJ,aK,aL,aP,aO,aQ,aR,aU,aV,aY,aZ,a3,hI⟩
     obtain rfl:=aL sX
     obtain rfl:=aE jh
     refine af (c:=false) (b:=true) (by decide) ?_
     exact ⟨aB,aC,aA,aD,ax,aF,aE,aG,aI,aM,ah,aj,ar,aJ,aK,aL,fun _=>rfl,aO,aQ,aR,aU,aV,aY,aZ,a3,hI⟩
    ·intro D a6 kf rn lk ch cr ct cD cH cF cE cG cB cC cX cI cJ cv cd cf ce bD bE cO cQ cR cM cP cN w_
     rintro ⟨aB,aC,aA,aD,ax,aF,aE,aG,aI,aM,ah,aj,ar,aJ,aK,aL,aP,aO,aQ,aR,aU,aV,aY,aZ,a3,hI⟩
     obtain rfl:=ar kf
     obtain rfl:=aP rn
     obtain rfl:=aE lk
     refine af (c:=false) (b:=true) (by decide) ?_
     exact ⟨aB,aC,aA,aD,ax,aF,aE,aG,aI,aM,ah,aj,ar,aJ,aK,aL,aP,fun _=>rfl,aQ,aR,aU,aV,aY,aZ,a3,hI⟩
    ·intro D a6 cA AB ch cr ct cD cH cF cE cG cB cC cX cI cJ cv cd cf ce bD bE cO cQ cR cM cP cN w_
     rintro ⟨aB,aC,aA,aD,ax,aF,aE,aG,aI,aM,ah,aj,ar,aJ,aK,aL,aP,aO,aQ,aR,aU,aV,aY,aZ,a3,hI⟩
     obtain rfl:=aE cA
     obtain rfl:=aO AB
     refine ak ?_
     exact ⟨aB,aC,aA,aD,ax,aF,aE,aG,aI,aM,ah,aj,ar,aJ,aK,aL,aP,aO,fun _=>rfl,aR,aU,aV,aY,aZ,a3,hI⟩
    ·intro D a6 un jh ch cr ct cD cH cF cE cG cB cC cX cI cJ cv cd cf ce bD bE cO cQ cR cM cP cN w_
     rintro ⟨aB,aC,aA,aD,ax,aF,aE,aG,aI,aM,ah,aj,ar,aJ,aK,aL,aP,aO,aQ,aR,aU,aV,aY,aZ,a3,hI⟩
     obtain rfl:=aQ un
     exact ⟨aB,aC,aA,aD,ax,aF,aE,aG,aI,aM,ah,aj,ar,aJ,aK,aL,aP,aO,aQ,fun _=>rfl,aU,aV,aY,aZ,a3,hI⟩
    ·intro D a6 fw ch cr ct cD cH cF cE cG cB cC cX cI cJ cv cd cf ce bD bE cO cQ cR cM cP cN w_
     rintro ⟨aB,aC,aA,aD,ax,aF,aE,aG,aI,aM,ah,aj,ar,aJ,aK,aL,aP,aO,aQ,aR,aU,aV,aY,aZ,a3,hI⟩
     obtain rfl:=aR fw
     refine af (c:=false) (b:=true) (by decide) ?_
     exact ⟨aB,aC,aA,aD,ax,aF,aE,aG,aI,aM,ah,aj,ar,aJ,aK,aL,aP,aO,aQ,aR,fun _=>rfl,aV,aY,aZ,a3,hI⟩
    ·intro D a6 fw ch cr ct cD cH cF cE cG cB cC cX cI cJ cv cd cf ce bD bE cO cQ cR cM cP cN w_
     rintro ⟨aB,aC,aA,aD,ax,aF,aE,aG,aI,aM,ah,aj,ar,aJ,aK,aL,aP,aO,aQ,aR,aU,aV,aY,aZ,a3,hI⟩
     obtain rfl:=aR fw
     refine af (c:=false) (b:=true) (by decide) ?_
     exact ⟨aB,aC,aA,aD,ax,aF,aE,aG,aI,aM,ah,aj,ar,aJ,aK,aL,aP,aO,aQ,aR,aU,fun _=>rfl,aY,aZ,a3,hI⟩
    ·intro D a6 tG zK ch cr ct cD cH cF cE cG cB cC cX cI cJ cv cd cf ce bD bE cO cQ cR cM cP cN w_
     rintro ⟨aB,aC,aA,aD,ax,aF,aE,aG,aI,aM,ah,aj,ar,aJ,aK,aL,aP,aO,aQ,aR,aU,aV,aY,aZ,a3,hI⟩
     obtain rfl:=aV tG
     obtain rfl:=aR zK
     refine af (c:=false) (b:=true) (by decide) ?_
     exact ⟨aB,aC,aA,aD,ax,aF,aE,aG,aI,aM,ah,aj,ar,aJ,aK,aL,aP,aO,aQ,aR,aU,aV,fun _=>rfl,aZ,a3,hI⟩
    ·intro D a6 uF yO Aw ch cr ct cD cH cF cE cG cB cC cX cI cJ cv cd cf ce bD bE cO cQ cR cM cP cN w_
     rintro ⟨aB,aC,aA,aD,ax,aF,aE,aG,aI,aM,ah,aj,ar,aJ,aK,aL,aP,aO,aQ,aR,aU,aV,aY,aZ,a3,hI⟩
     obtain rfl:=aU uF
     obtain rfl:=aY yO
     obtain rfl:=aR Aw
     refine af (c:=false) (b:=true) (by decide) ?_
     exact ⟨aB,aC,aA,aD,ax,aF,aE,aG,aI,aM,ah,aj,ar,aJ,aK,aL,aP,aO,aQ,aR,aU,aV,aY,fun _=>rfl,a3,hI⟩
    ·intro D a6 fw za ch cr ct cD cH cF cE cG cB cC cX cI cJ cv cd cf ce bD bE cO cQ cR cM cP cN w_
     rintro ⟨aB,aC,aA,aD,ax,aF,aE,aG,aI,aM,ah,aj,ar,aJ,aK,aL,aP,aO,aQ,aR,aU,aV,aY,aZ,a3,hI⟩
     obtain rfl:=aR fw
     obtain rfl:=aZ za
     refine ak ?_
     exact ⟨aB,aC,aA,aD,ax,aF,aE,aG,aI,aM,ah,aj,ar,aJ,aK,aL,aP,aO,aQ,aR,aU,aV,aY,aZ,fun _=>rfl,hI⟩
    intro D Br Cm A6 xi ye xG uQ sU sR oI pe qu i5 eR eX jG io gc gp f1 fL fJ fP fN fO ch cr ct cD cH cF cE cG cB cC cX cI cJ cv cd cf ce bD bE cO cQ cR cM cP cN w_
    rintro ⟨aB,aC,aA,aD,ax,aF,aE,aG,aI,aM,ah,aj,ar,aJ,aK,aL,aP,aO,aQ,aR,aU,aV,aY,aZ,a3,hI⟩
    obtain rfl:=a3 Br
    obtain rfl:=aZ Cm
    obtain rfl:=aY A6
    obtain rfl:=aV xi
    obtain rfl:=aU ye
    obtain rfl:=aR xG
    obtain rfl:=aQ uQ
    obtain rfl:=aO sU
    obtain rfl:=aP sR
    obtain rfl:=aL oI
    obtain rfl:=aK pe
    obtain rfl:=aJ qu
    obtain rfl:=ar i5
    obtain rfl:=aj eR
    obtain rfl:=ah eX
    obtain rfl:=aM jG
    obtain rfl:=aI io
    obtain rfl:=aG gc
    obtain rfl:=aE gp
    obtain rfl:=aF f1
    obtain rfl:=ax fL
    obtain rfl:=aD fJ
    obtain rfl:=aA fP
    obtain rfl:=aC fN
    obtain rfl:=aB fO
    clear aB aC aA aD ax aF aE aG aI aM ah aj ar aJ aK aL aP aO aQ aR aU aV aY aZ a3
    refine aX (fun hb=>by cases hb) (fun _=>?_)
    refine ⟨best,rfl,hbl,?_,hI⟩
    rw [if_neg] at hbest
    ·exact hbest
    ·rintro ⟨h1,_⟩
     rw [decide_eq_true_eq] at h1
     exact hlen h1
  intro t7 _ _ _ _ _ _ _ _ _ _ _ _ _ _ _ _ _ _ _ _ _ _ _ _ _ _ _ _ _ _ _ _ _ _ _ w'
  rintro ⟨best',rfl,hbl',hb',hI⟩
  refine bC (by omega) ?_
  exact ⟨⟨j+1,best',hj,rfl,rfl,hbl',hb',hI⟩,by simp [intOf]; omega⟩
 ·have:j=signs.length:=by omega
  subst this
  rw [List.drop_length,gb] at hbest
  rw [<- hbest] at hnm
  refine dj ?_
  refine bp (fun hb=>?_) (fun hb=>?_)
  ·have:best=[]:=by rw [<- wu best,hb]
   exact o6 hI hle (by rw [hnm,if_pos this]; rfl)
  ·have:¬ best=[]:=fun h=>hb (by rw [h])
   refine ek a7 ?_
   refine bC (by omega) ?_
   exact o6 hI hle (by rw [hnm,if_neg this]; rfl)
end
theorem qF (s:Bs) (i:Nat):∀ (l:List ByteArray) (b:Bs),(∀ x∈l,x.size<=3)->b.length<=3->i+b.length<=s.length->i+(gb s i l b).length<=s.length/\(gb s i l b).length<=3
 | [],b,_,h2,h3=>⟨h3,h2⟩
 | x::l,b,h1,h2,h3=>by
  rw [gb]
  have hx:(bs x).length=x.size:=Array.length_toList
  split
  ·rename_i h
   exact qF s i l _ (fun y hy=>h1 y (List.mem_cons_of_mem _ hy)) (by rw [hx]; exact h1 x (List.mem_cons_self ..)) (by rw [hx]; exact of_decide_eq_true h.1)
  ·exact qF s i l _ (fun y hy=>h1 y (List.mem_cons_of_mem _ hy)) h2 h3
theorem CU (s:Bs):∀ (n e:Nat),e<=rU s n e/\rU s n e<=e+n
 | 0,e=>by simp [rU]
 | n+1,e=>by
  rw [rU]
  split
  ·have:=CU s n (e+1); omega
  ·omega
theorem jC {s:Bs} {i:Nat} {n:Bs} {e:Nat} (hi:i<s.length) (h:kl s i=some (n,e)):i<e/\e<=s.length/\n.length<=6/\n≠[]:=by
 have hl:=CU s (s.length - i) i
 have hb:=qF s i signs [] Ag (by simp) (by simpa using Nat.le_of_lt hi)
 unfold kl at h
 simp only [] at h
 split at h
 ·cases h
 ·split at h
  ·simp only [Option.some.injEq,Prod.mk.injEq] at h
   obtain ⟨rfl,rfl⟩:=h
   rename_i h1 h2
   have hc:=xW (s:=s) (a:=i) (b:=rU s (s.length - i) i) (by omega)
   refine ⟨h2,by omega,by omega,fun h=>?_⟩
   rw [h] at hc
   simp at hc
   omega
  ·split at h
   ·cases h
   ·simp only [Option.some.injEq,Prod.mk.injEq] at h
    obtain ⟨rfl,rfl⟩:=h
    rename_i h3
    have:0<(gb s i signs []).length:=by
     cases he:gb s i signs [] with
     | nil=>exact absurd he h3
     | cons a l=>simp
    exact ⟨by omega,by omega,by omega,h3⟩
def opV (o:Option (Bs × Nat)) (i:Nat):Value:=match o with
 | none=>.tuple #[.string ⟨#[]⟩,.int .i64 (i:Int)]
 | some (n,e)=>.tuple #[.string (st n),.int .i64 (e:Int)]
theorem DM {s:Bs} {i:Nat} {n:Bs} {e:Nat} (h:opF s i=some (n,e)):i<e/\e<=s.length/\n.length<=6/\n≠[]:=by
 unfold opF at h
 obtain ⟨fr,hfr⟩:∃ fr,fr=if sgn s i 32=true then i+1 else i:=⟨_,rfl⟩
 simp only [<- hfr] at h
 have hfi:i<=fr:=by rw [hfr]; split <;> omega
 split at h
 ·cases h
 rename_i hlt
 split at h
 ·cases h
 rename_i nm nx hnm
 obtain ⟨h1,h2,h3,h4⟩:=jC (by omega) hnm
 split at h
 ·cases h
 rename_i hc
 simp only [not_or,not_and,Bool.not_eq_false] at hc
 simp only [Option.some.injEq,Prod.mk.injEq] at h
 obtain ⟨rfl,rfl⟩:=h
 refine ⟨by split <;> omega,?_,h3,h4⟩
 split
 ·rename_i hw
  have:=eS (hc.2.2 hw)
  omega
 ·exact h2
section
attribute [local irreducible] Run CondV ag a4
theorem Bu {s:Bs} {i:Nat} (hs:s.length<=100000) (hi:i<=s.length) (S:av):Pure Tryz.prog EG [.string (st s),.int .i64 (i:Int)] S (opV (opF s i) i):=by
 intro w hI
 refine yy ?_
 unfold wk
 obtain ⟨fr,hfr⟩:∃ fr,fr=if sgn s i 32=true then i+1 else i:=⟨_,rfl⟩
 have hfi:i<=fr/\fr<=i+1:=by rw [hfr]; split <;> omega
 obtain ⟨r,hr⟩:∃ r,r=opF s i:=⟨_,rfl⟩
 rw [<- hr]
 unfold opF at hr
 simp only [<- hfr] at hr
 refine ⟨fun t w'=>t=.int .i64 (fr:Int)/\Inv w [] [] S w',?_,?_⟩
 ·refine Run.callPure cm cn hI (bG s i 32 S) fun w' hI=>?_
  refine aX (fun hb=>?_) (fun hb=>?_)
  ·refine bC (by omega) ?_
   rw [if_pos hb] at hfr
   exact ⟨by rw [hfr]; congr 1,hI⟩
  ·rw [if_neg (by rw [hb]; decide)] at hfr
   exact ⟨by rw [hfr],hI⟩
 intro t6 _ _ _ _ _ w'
 rintro ⟨rfl,hI⟩
 refine ek a7 ?_
 refine q9 ?_
 refine bp (fun hb=>?_) (fun hb=>?_)
 ·rw [if_pos (by omega)] at hr
  exact done hI (by rw [hr]; rfl)
 rw [if_neg (by omega)] at hr
 refine Run.callPure lE l2 hI (j4 (by omega) hs S) fun w' hI=>?_
 cases hnm:kl s fr with
 | none=>
  rw [hnm] at hr
  simp only [] at hr
  simp only [y4]
  refine a5 rfl ?_
  refine a5 rfl ?_
  refine ⟨fun t w'=>t=.bool true/\Inv w [] [] S w',?_,?_⟩
  ·refine sN (by omega) ?_
   repeat (first|refine ac ?_|refine af (by decide) ?_|refine ab ?_|refine al ?_|refine ak ?_)
   exact ⟨rfl,hI⟩
  intro t33 _ _ _ _ _ _ w'
  rintro ⟨rfl,hI⟩
  exact aX (fun _=>done hI (by rw [hr]; rfl)) (fun hb=>by cases hb)
 | some q=>
  obtain ⟨nm,nx⟩:=q
  rw [hnm] at hr
  simp only [] at hr
  obtain ⟨h1,h2,h3,h4⟩:=jC (by omega) hnm
  simp only [y4]
  refine a5 (v:=.string (st nm)) rfl ?_
  refine a5 (v:=.int .i64 (nx:Int)) rfl ?_
  refine ⟨fun t w'=>t=.bool (decide (dG (st nm)=0))/\Inv w [] [] S w',?_,?_⟩
  ·refine dI (by omega) ?_
   repeat (first|refine ac ?_|refine af (by decide) ?_|refine ab ?_|refine al ?_|refine ak ?_)
   refine Run.callPure eI eK hI (dC _ S) fun w' hI=>?_
   refine cw ?_
   repeat (first|refine ac ?_|refine af (by decide) ?_|refine ab ?_|refine al ?_|refine ak ?_)
   exact ⟨rfl,hI⟩
  intro t33 _ _ _ _ _ _ w'
  rintro ⟨rfl,hI⟩
  refine bp (fun hb=>?_) (fun hb=>?_)
  ·rw [if_pos (.inl hb)] at hr
   exact done hI (by rw [hr]; rfl)
  obtain ⟨word,hword⟩:∃ word,word=(decide (nm=[105,115]) || decide (nm=[109,111,100])):=⟨_,rfl⟩
  rw [<- hword] at hr
  refine ⟨fun t w'=>t=.bool word/\Inv w [] [] S w',?_,?_⟩
  ·refine s5 (b:=[105,115]) ?_
   cases h5:decide (nm=[105,115])
   ·repeat (first|refine ac ?_|refine af (by decide) ?_|refine ab ?_|refine al ?_|refine ak ?_)
    refine s5 (b:=[109,111,100]) ?_
    repeat (first|refine ac ?_|refine af (by decide) ?_|refine ab ?_|refine al ?_|refine ak ?_)
    exact ⟨by rw [hword,h5,Bool.false_or],hI⟩
   ·repeat (first|refine ac ?_|refine af (by decide) ?_|refine ab ?_|refine al ?_|refine ak ?_)
    exact ⟨by rw [hword,h5,Bool.true_or],hI⟩
  intro t9 _ _ _ _ _ _ w'
  rintro ⟨rfl,hI⟩
  refine ⟨fun t w'=>t=.bool (decide (word≠decide (i<fr)) || (word && !sgn s nx 32))/\Inv w [] [] S w',?_,?_⟩
  ·refine dS ?_
   refine GA Cw ?_
   have e1:decide ((i:Int)<(fr:Int))=decide (i<fr):=by rw [decide_eq_decide]; omega
   rw [e1]
   cases h6:decide (i<fr) <;> cases word
   ·repeat (first|refine ac ?_|refine af (by decide) ?_|refine ab ?_|refine al ?_|refine ak ?_)
    exact ⟨by rfl,hI⟩
   ·repeat (first|refine ac ?_|refine af (by decide) ?_|refine ab ?_|refine al ?_|refine ak ?_)
    exact ⟨by rfl,hI⟩
   ·repeat (first|refine ac ?_|refine af (by decide) ?_|refine ab ?_|refine al ?_|refine ak ?_)
    exact ⟨by rfl,hI⟩
   ·repeat (first|refine ac ?_|refine af (by decide) ?_|refine ab ?_|refine al ?_|refine ak ?_)
    refine Run.callPure cm cn hI (bG s nx 32 S) fun w' hI=>?_
    refine c9 ?_
    repeat (first|refine ac ?_|refine af (by decide) ?_|refine ab ?_|refine al ?_|refine ak ?_)
    exact ⟨by simp,hI⟩
  intro t54 _ _ _ _ _ _ _ _ _ _ _ _ _ w'
  rintro ⟨rfl,hI⟩
  refine aX (fun hb'=>?_) (fun hb'=>?_)
  ·rw [if_pos] at hr
   ·exact done hI (by rw [hr]; rfl)
   ·rw [Bool.or_eq_true,decide_eq_true_eq,Bool.and_eq_true,Bool.not_eq_true'] at hb'
    exact .inr hb'
  ·rw [if_neg] at hr
   ·refine ⟨fun t w'=>t=.int .i64 ((if word=true then nx+1 else nx:Nat):Int)/\Inv w [] [] S w',?_,?_⟩
    ·refine aX (fun hw=>?_) (fun hw=>?_)
     ·refine bC (by omega) ?_
      exact ⟨by rw [if_pos hw]; congr 1,hI⟩
     ·exact ⟨by rw [if_neg (by rw [hw]; decide)],hI⟩
    intro t8 _ _ _ w'
    rintro ⟨rfl,hI⟩
    exact done hI (by rw [hr]; rfl)
   ·rw [Bool.or_eq_false_iff,decide_eq_false_iff_not] at hb'
    rintro (h|h|⟨h,h'⟩)
    ·exact hb h
    ·exact hb'.1 h
    ·rw [h,h'] at hb'
     simp at hb'
end
end Go.Proofs.YtemmhhdnlbmicaaGreat

/- Publishing what a call owns; what is published since. -/
namespace Go.Proofs.YtemmhhdnlbmicaaGreat
open Go Go.RowKit
/- a tree of one's own, published -/
theorem Inv.pubExt {w0 w:World} {X:List Nat} {A:List Item} {S:av} {L:bl} (h:Inv w0 X (A++bB L) S w) :
  ∃ S',Inv w0 X A S' w/\Ext w0.heap.size X S S'/\Ins S' L:=by
 obtain ⟨S',h1,h2,h3,h4⟩:=h.publishAll L
 refine ⟨S',h1,⟨h2,fun b o hb=>?_⟩,h3⟩
 rcases h4 b o hb with h5|h5
 ·exact .inl h5
 ·right
  exact h.new b (by rw [ci]; exact List.mem_append_right _ h5)
theorem Inv.pub1 {w0 w:World} {X:List Nat} {A:List Item} {S:av} {b:Nat} {o:Obj} (h:Inv w0 X (A++[.blk b o]) S w) :
  ∃ S',Inv w0 X A S' w/\Ext w0.heap.size X S S'/\S' b=some o:=by
 obtain ⟨S',h1,h2,h3⟩:=Inv.pubExt (A:=A) (L:=[(b,o)]) h
 exact ⟨S',h1,h2,h3 _ (List.mem_singleton.2 rfl)⟩
theorem Rows.monoR {α:Type} {k:Nat} {R R':List Value->α->Prop} {css:List (List Value)} {ys:List α} (h:Rows k R css ys) (hR:∀ cs y,R cs y->R' cs y):Rows k R' css ys:=⟨h.hc,h.hk,fun i h1 h2=>hR _ _ (h.hR i h1 h2)⟩
theorem Rows.one {α:Type} {k:Nat} {R:List Value->α->Prop} {cs:List Value} {y:α} (hR:R cs y) (hl:cs.length=k):Rows k R [cs] [y]:=by
 have:=(Rows.nil k R).snoc hR hl
 exact this
section
variable {P:Program} {w w0:World} {X:List Nat} {L:List Item} {S:av} {K:Value->World->Prop}
theorem Run.call0E {f:FuncId} {fn:Func} {args:List Value} {Post:Value->List Item->av->Prop}
  (hf:P.funcs[f]?=some fn) (hn:(fn.name == "runtime.NumGoroutine" || fn.body.isNone)=false) (h:Inv w0 X L S w) (hc:Tri P f args [] S Post)
  (hk:∀ v I' S' w',Post v I' S'->Ext w0.heap.size X S S'->Inv w0 X (L++I') S' w'->K v w'):Run P (aH (.func (.func f) #[] #[]) args) w K:=by
 refine Run.callP hf hn ((hc w h.nil.begin).mono ?_)
 rintro e w' ⟨v,I',S',rfl,hI,hE,hP⟩
 refine hk v I' S' w' hP ⟨hE.1,fun b o hb=>?_⟩ (Inv.step (A:=L) (B:=[]) (by simpa using h) hI hE.2)
 rcases hE.2 b o hb with h1|h1|h1
 ·exact .inl h1
 ·simp [bF] at h1
 ·exact .inr (.inr (Nat.le_trans h.size h1))
end
theorem Ext.trans {n:Nat} {Y:List Nat} {S S' S'':av} (h:Ext n Y S S') (h':Ext n Y S' S''):Ext n Y S S'':=by
 refine ⟨h.1.trans h'.1,fun b o hb=>?_⟩
 rcases h'.2 b o hb with h1|h1
 ·exact h.2 b o h1
 ·exact .inr h1
section
variable {P:Program} {w w0:World} {X:List Nat} {A I:List Item} {S:av} {K:Value->World->Prop}
theorem F2 {f:FuncId} {args:List Value} {Post:Value->List Item->av->Prop} (h:Inv w0 X (A++I) S w) (hc:Tri P f args I S Post) :
  Calls P f args.toArray w fun e w'=>∃ v I' S',e=.returned v/\Inv w0 X (A++I') S' w'/\Ext w0.heap.size X S S'/\Post v I' S':=by
 refine (hc w (h.sub (List.sublist_append_right A I)).begin).mono ?_
 rintro e w' ⟨v,I',S',rfl,hI,hE,hP⟩
 refine ⟨v,I',S',rfl,Inv.step h hI hE.2,⟨hE.1,fun b o hb=>?_⟩,hP⟩
 rcases hE.2 b o hb with h1|h1|h1
 ·exact .inl h1
 ·exact .inr (h.new b (by rw [ci]; exact List.mem_append_right _ h1))
 ·exact .inr (.inr (Nat.le_trans h.size h1))
theorem Run.callE {f:FuncId} {fn:Func} {args:List Value} {Post:Value->List Item->av->Prop}
  (hf:P.funcs[f]?=some fn) (hn:(fn.name == "runtime.NumGoroutine" || fn.body.isNone)=false) (h:Inv w0 X (A++I) S w) (hc:Tri P f args I S Post)
  (hk:∀ v I' S' w',Post v I' S'->Ext w0.heap.size X S S'->Inv w0 X (A++I') S' w'->K v w'):Run P (aH (.func (.func f) #[] #[]) args) w K:=by
 refine Run.callP hf hn ((F2 h hc).mono ?_)
 rintro e w' ⟨v,I',S',rfl,hI,hE,hP⟩
 exact hk v I' S' w' hP hE hI
end
theorem Inv.lendExt {w0 w:World} {X:List Nat} {A:List Item} {S:av} {v:Value} {e:TypeId} {k:Nat} {css:List (List Value)} (h:Inv w0 X (A++[bq v e k css]) S w) :
  ∃ S',Ext w0.heap.size X S S'/\RowRd S' v e k css.length css.flatten/\Inv w0 X A S' w:=by
 obtain ⟨hl,ho⟩:=h.openRow
 rcases ho with ⟨rfl,h0⟩|⟨g,cap,cur,rfl,hnc,hcm,hcs,ht,hI⟩
 ·exact ⟨S,Ext.refl _ _ _,⟨hl,.inl ⟨rfl,h0⟩⟩,h.sub (List.sublist_append_left _ _)⟩
 ·obtain ⟨S',h1,h2,h3⟩:=Inv.pub1 (A:=A) hI
  exact ⟨S',h2,⟨hl,.inr ⟨g,cap,cur,rfl,h3,hnc,hcm,hcs,ht⟩⟩,h1⟩

end Go.Proofs.YtemmhhdnlbmicaaGreat
