/- Bytes, numbers, names and operators in texts: spec.l1Sign and its kin. (printed by gen_byt.py) -/
import Derived.Test.YtcpgagfdeflbkaaGreatDoorZMv7
import Derived.Test.YtcpgagfdeflbkaaGreatDoorZMvF
namespace Go.Proofs.YtcpgagfdeflbkaaGreatDoor
open Go Go.RowKit
theorem iq {s:Bs} {i:Nat} (h:i<s.length) (c:Nat):sgn s i c=decide (s[i].toNat=c):=by simp [sgn,List.getElem?_eq_getElem h]
theorem JK {s:Bs} {i:Nat} (h:¬ i<s.length) (c:Nat):sgn s i c=false:=by simp [sgn,List.getElem?_eq_none (Nat.le_of_not_lt h)]
theorem lO {s:Bs} {i:Nat} (h:i<s.length) (a b:Nat):btw s i a b=(decide (a<=s[i].toNat) && decide (s[i].toNat<=b)):=by simp [btw,List.getElem?_eq_getElem h]
theorem Hd {s:Bs} {i:Nat} (h:¬ i<s.length) (a b:Nat):btw s i a b=false:=by simp [btw,List.getElem?_eq_none (Nat.le_of_not_lt h)]
theorem xz {s:Bs} {i a b:Nat} (h:btw s i a b=true):i<s.length:=by
 rcases Nat.lt_or_ge i s.length with h1|h1
 ·exact h1
 ·rw [Hd (by omega)] at h; cases h
theorem fH {s:Bs} {i c:Nat} (h:sgn s i c=true):i<s.length:=by
 rcases Nat.lt_or_ge i s.length with h1|h1
 ·exact h1
 ·rw [JK (by omega)] at h; cases h
section
attribute [local irreducible] Run CondV ao aI
theorem bL (s:Bs) (i c:Nat) (S:ad):Pure Tryz.prog GC [.string (st s),.int .i64 (i:Int),.int .u8 (c:Int)] S (.bool (sgn s i c)):=by
 intro w hI
 refine uT.2 ?_
 dsimp only[uT,ft]
 refine lX (by omega) ?_
 refine rpG ?_
 refine dS aG ?_
 by_cases h:i<s.length
 ·refine yh (by omega) ?_
  refine rpG ?_
  refine dj aG h ?_
  refine ba ?_
  refine rpG ?_
  refine done hI ?_
  rw [iq h]
  congr 1
  rw [decide_eq_decide]
  omega
 ·refine dC (by omega) ?_
  refine rpG ?_
  exact done hI (by rw [JK h])
theorem fh (s:Bs) (i:Nat) (S:ad):Pure Tryz.prog Fr [.string (st s),.int .i64 (i:Int)] S (.bool (dig s i)):=by
 intro w hI
 refine sA.2 ?_
 dsimp only[sA,aR]
 refine lX (by omega) ?_
 refine rpG ?_
 refine dS aG ?_
 by_cases h:i<s.length
 ·refine yh (by omega) ?_
  refine rpG ?_
  refine dj aG h ?_
  rw [dig,lO h]
  by_cases h2:48<=s[i].toNat
  ·refine lX (by omega) ?_
   refine rpG ?_
   refine dj aG h ?_
   refine dI ?_
   refine rpG ?_
   refine done hI ?_
   rw [decide_eq_true h2,Bool.true_and]
   congr 1
   rw [decide_eq_decide]
   omega
  ·refine ux (by omega) ?_
   refine rpG ?_
   exact done hI (by rw [decide_eq_false h2,Bool.false_and])
 ·refine dC (by omega) ?_
  refine rpG ?_
  exact done hI (by rw [dig,Hd h])
theorem mi (s:Bs) (i:Nat) (S:ad):Pure Tryz.prog DN [.string (st s),.int .i64 (i:Int)] S (.bool (sml s i)):=by
 intro w hI
 refine si.2 ?_
 dsimp only[si,aR]
 refine lX (by omega) ?_
 refine rpG ?_
 refine dS aG ?_
 by_cases h:i<s.length
 ·refine yh (by omega) ?_
  refine rpG ?_
  refine dj aG h ?_
  rw [sml,lO h]
  by_cases h2:97<=s[i].toNat
  ·refine lX (by omega) ?_
   refine rpG ?_
   refine dj aG h ?_
   refine dI ?_
   refine rpG ?_
   refine done hI ?_
   rw [decide_eq_true h2,Bool.true_and]
   congr 1
   rw [decide_eq_decide]
   omega
  ·refine ux (by omega) ?_
   refine rpG ?_
   exact done hI (by rw [decide_eq_false h2,Bool.false_and])
 ·refine dC (by omega) ?_
  refine rpG ?_
  exact done hI (by rw [sml,Hd h])
end
theorem HV {s:Bs} {i:Nat} (h:i<s.length):dig s i=true↔48<=s[i].toNat/\s[i].toNat<=57:=by
 rw [dig,lO h,Bool.and_eq_true,decide_eq_true_eq,decide_eq_true_eq]
theorem Jx {d:Bs} {j:Nat} (h:j<d.length) (m:Nat):zy (d.drop j) m=zy (d.drop (j+1)) (m * 10+(d[j].toNat - 48)):=by
 rw [List.drop_eq_getElem_cons h,zy]
section
attribute [local irreducible] Run CondV ao aI
theorem CU (d:Bs) (hd:∀ i,i<d.length->dig d i=true) (h0:0<d.length) (h4:d.length<=4) (hz:¬ (sgn d 0 48=true/\1<d.length)) (S:ad) :
  Pure Tryz.prog Gk [.string (st d)] S (.tuple #[.int .i64 ((zy d 0:Nat):Int),.bool true]):=by
 intro w hI
 refine vH.2 ?_
 dsimp only[vH,aC]
 have hd0:=(HV h0).1 (hd 0 h0)
 refine ⟨fun t w'=>t=.bool false/\Inv w [] [] S w',?_,?_⟩
 ·refine dS aG ?_
  refine Hc (by omega) ?_
  refine rpG ?_
  refine dj (i:=0) aG h0 ?_
  refine dh (by omega) ?_
  refine rpG ?_
  exact ⟨rfl,hI⟩
 intro t4 _ _ _ _ _ _ _ _ w'
 rintro ⟨rfl,hI⟩
 refine ⟨fun t w'=>t=.string (st d)/\Inv w [] [] S w',?_,?_⟩
 ·exact av (fun hb=>by cases hb) (fun _=>⟨rfl,hI⟩)
 intro t0 _ _ _ w'
 rintro ⟨rfl,hI⟩
 refine ⟨fun t w'=>t=.bool false/\Inv w [] [] S w',?_,?_⟩
 ·refine dS aG ?_
  refine dh (by omega) ?_
  refine rpG ?_
  refine dS aG ?_
  refine iv (by omega) ?_
  refine rpG ?_
  refine dj (i:=0) aG h0 ?_
  by_cases hs:d[0].toNat=48
  ·refine dA (by omega) ?_
   refine rpG ?_
   refine dS aG ?_
   refine iv (by
    have:¬ 1<d.length:=fun h=>hz ⟨by rw [iq h0,hs]; rfl,h⟩
    omega) ?_
   refine rpG ?_
   exact ⟨rfl,hI⟩
  ·refine dh (by omega) ?_
   refine rpG ?_
   exact ⟨rfl,hI⟩
 intro t38 _ _ _ _ _ _ _ _ _ _ _ _ _ _ _ _ _ _ _ _ w'
 rintro ⟨rfl,hI⟩
 refine av (fun hb=>by cases hb) (fun _=>?_)
 refine ⟨fun i n w'=>∃ j m:Nat,j<=d.length/\i=.int .i64 j/\n=.int .i64 m/\m<10 ^ j/\zy (d.drop j) m=zy d 0/\Inv w [] [] S w',fun i _ _=>d.length - (intOf i).toNat,
  ⟨0,0,Nat.zero_le _,rfl,rfl,by simp,rfl,hI⟩,?_⟩
 intro t6 _ _ t5 _ _ _ _ _ _ _ _ _ _ _ _ _ _ _ _ _ _ _ _ _ _ _ _ w'
 rintro ⟨j,m,hj,rfl,rfl,hm,hval,hI⟩
 have hp:10 ^ j<=10 ^ 4:=Nat.pow_le_pow_right (by omega) (by omega)
 refine dS aG ?_
 refine bC ?_
 refine aH (fun hji=>?_) (fun hji=>?_)
 ·have hj':j<d.length:=by omega
  have hdj:=(HV hj').1 (hd j hj')
  refine ⟨fun t w'=>t=.bool false/\Inv w [] [] S w',?_,?_⟩
  ·refine dj aG hj' ?_
   refine dC (by omega) ?_
   refine rpG ?_
   refine dj aG hj' ?_
   refine iv (by omega) ?_
   refine rpG ?_
   exact ⟨rfl,hI⟩
  intro t54 _ _ _ _ _ _ _ _ _ w'
  rintro ⟨rfl,hI⟩
  refine av (fun hb=>by cases hb) (fun _=>?_)
  refine yE (by omega) ?_
  refine dj aG hj' ?_
  refine Lq (c:=((d[j].toNat - 48:Nat):Int)) ?_ ?_
  ·rw [IntWalk.u8_in _ (by omega)]; omega
  refine ob eq eQ (IntWalk.i64_in _ (by omega)) ?_
  refine bi (by omega) ?_
  refine bi (by omega) ?_
  refine ⟨⟨j+1,m * 10+(d[j].toNat - 48),hj',rfl,?_,?_,?_,hI⟩,by simp [intOf]; omega⟩
  ·congr 1
  ·rw [Nat.pow_succ]; omega
  ·rw [<- hval,Jx hj']
 ·have:j=d.length:=by omega
  subst this
  rw [List.drop_length,zy] at hval
  refine ⟨fun t w'=>t=.int .i64 m/\Inv w [] [] S w',av (fun hb=>by cases hb) (fun _=>⟨rfl,hI⟩),?_⟩
  intro t5 _ _ _ w'
  rintro ⟨rfl,hI⟩
  exact done hI (by rw [hval])
abbrev Bl (k n:Int):Value:=.agg #[.int .i64 k,.int .i64 n,.string ⟨#[]⟩,.slice none 0 0]
theorem mW {w:World} {K:Value->World->Prop} {k n:Int} (hk:K (Bl k n) w):Run Tryz.prog (bJ ab [(0,.int .i64 k),(1,.int .i64 n)]) w K:=by
 refine Run.of (v:=Bl k n) (w':=w) ?_ hk
 unfold bJ
 rw [Sem.run_bind,run_build w ab _ #[.int .i64 k,.int .i64 n,.string ⟨#[]⟩,.slice none 0 0] (by kernel_rfl),Result.andThen_ok]
 rfl
theorem pH (n:Int) (S:ad):Pure Tryz.prog IJ [.int .i64 n] S (Bl 1 n):=by
 intro w hI
 refine xM.2 ?_
 dsimp only[xM,aC]
 refine aL hI aW fun b w' hI=>?_
 refine mW ?_
 refine au hI 0 rfl ac rfl rfl (by simp [Value.oneCell']) fun w' hI=>?_
 refine be hI 0 ac rfl rfl ?_
 exact done hI rfl
theorem jS (n:Int) (S:ad):Pure Tryz.prog ID [.int .i64 n] S (Bl 2 n):=by
 intro w hI
 refine y3.2 ?_
 dsimp only[y3,aC]
 refine aL hI aW fun b w' hI=>?_
 refine mW ?_
 refine au hI 0 rfl ac rfl rfl (by simp [Value.oneCell']) fun w' hI=>?_
 refine be hI 0 ac rfl rfl ?_
 exact done hI rfl
end
theorem EK (s:Bs) (n e:Nat):o8 s (n+1) e=if dig s e=true then o8 s n (e+1) else e:=rfl
theorem Cg (s:Bs):∀ (n e:Nat),e<=o8 s n e/\o8 s n e<=e+n
 | 0,e=>by simp [o8]
 | n+1,e=>by
  rw [o8]
  split
  ·have:=Cg s n (e+1); omega
  ·omega
theorem rQ (s:Bs):∀ (n e i:Nat),e<=i->i<o8 s n e->dig s i=true
 | 0,e,i,h1,h2=>by simp [o8] at h2; omega
 | n+1,e,i,h1,h2=>by
  rw [o8] at h2
  split at h2
  ·rename_i h
   by_cases he:e=i
   ·subst he; exact h
   ·exact rQ s n (e+1) i (by omega) h2
  ·omega
theorem BV {s:Bs} {a b i:Nat} (hi:i<(cut s a b).length):∃ h:a+i<s.length,(cut s a b)[i]=s[a+i]/\a+i<b:=by
 have h1:(cut s a b).length=min b s.length - a:=by simp [cut]
 refine ⟨by omega,?_,by omega⟩
 simp [cut]
theorem Cl {s:Bs} {a b:Nat} (hb:b<=s.length):(cut s a b).length=b - a:=by simp [cut]; omega
theorem LI {s:Bs} {a b i:Nat} (hi:i<(cut s a b).length):dig (cut s a b) i=dig s (a+i):=by
 obtain ⟨h,e,_⟩:=BV hi
 rw [dig,dig,lO hi,lO h,e]
section
attribute [local irreducible] Run CondV ao aI
theorem y4 {s:Bs} {i e:Nat} {t:T} (hn:Lb s i=some (t,e)) (hi:i<=100000) (S:ad) :
  ∃ n:Int,inI n/\t=.mk 2 n emptyB []/\i<=e/\e<=i+5/\Pure Tryz.prog BG [.string (st s),.int .i64 (i:Int)] S (.tuple #[Bl 2 n,.int .i64 (e:Int)]):=by
 unfold Lb at hn
 obtain ⟨fr,hfr⟩:∃ fr,fr=if sgn s i 45=true then i+1 else i:=⟨_,rfl⟩
 simp only [<- hfr] at hn
 obtain ⟨en,hen⟩:∃ en,en=o8 s 4 fr:=⟨_,rfl⟩
 simp only [<- hen] at hn
 have hle:=Cg s 4 fr
 rw [<- hen] at hle
 have hfi:i<=fr/\fr<=i+1:=by rw [hfr]; split <;> omega
 split at hn
 ·cases hn
 rename_i hc
 simp only [not_or] at hc
 obtain ⟨hc1,hc2,hc3,hc4⟩:=hc
 simp only [Option.some.injEq,Prod.mk.injEq] at hn
 obtain ⟨rfl,rfl⟩:=hn
 have hdig:∀ j,j<(cut s fr en).length->dig (cut s fr en) j=true:=fun j hj=>by
  obtain ⟨h1,h2,h3⟩:=BV hj
  rw [LI hj]
  exact rQ s 4 fr _ (by omega) (by rw [<- hen]; exact h3)
 have hlen0:0<(cut s fr en).length:=by
  cases he:cut s fr en with
  | nil=>exact absurd he hc1
  | cons a l=>simp
 have hen2:fr<en:=by
  obtain ⟨_,_,h3⟩:=BV hlen0
  omega
 have hens:en<=s.length:=by
  have:=rQ s 4 fr (en - 1) (by omega) (by rw [<- hen]; omega)
  have:=xz this
  omega
 refine ⟨_,?_,rfl,by omega,by omega,?_⟩
 ·unfold inI; split <;> omega
 intro w hI
 refine py.2 ?_
 dsimp only[py,aR]
 refine aL hI aW fun b4 w' hI=>?_
 refine ⟨fun t w'=>t=.int .i64 (fr:Int)/\Inv w [] [.blk b4 (.cells #[.int .i64 0,.int .i64 0,.string ⟨#[]⟩,.slice none 0 0] ab)] S w',?_,?_⟩
 ·refine Run.callPure bY b0 hI (bL s i 45 S) fun w' hI=>?_
  refine av (fun hb=>?_) (fun hb=>?_)
  ·refine bi (by omega) ?_
   rw [if_pos hb] at hfr
   exact ⟨by rw [hfr]; congr 1,hI⟩
  ·rw [if_neg (by rw [hb]; decide)] at hfr
   exact ⟨by rw [hfr],hI⟩
 intro t6 _ _ _ _ _ w'
 rintro ⟨rfl,hI⟩
 refine ⟨fun t w'=>∃ j:Nat,t=.int .i64 (j:Int)/\fr<=j/\j<=fr+4/\o8 s (fr+4 - j) j=en/\Inv w [] [.blk b4 (.cells #[.int .i64 0,.int .i64 0,.string ⟨#[]⟩,.slice none 0 0] ab)] S w',fun t _=>fr+4 - (intOf t).toNat,
  ⟨fr,rfl,Nat.le_refl _,by omega,by rw [Nat.add_sub_cancel_left]; exact hen.symm,hI⟩,?_⟩
 intro t6 _ _ _ _ _ _ _ _ _ _ _ w'
 rintro ⟨j,rfl,hj1,hj2,hj3,hI⟩
 refine ⟨fun t w'=>t=.bool (dig s j && decide (j<fr+4))/\Inv w [] [.blk b4 (.cells #[.int .i64 0,.int .i64 0,.string ⟨#[]⟩,.slice none 0 0] ab)] S w',?_,?_⟩
 ·refine Run.callPure hZ g6 hI (fh s j S) fun w' hI=>?_
  cases hdj:dig s j
  ·refine rpG ?_
   exact ⟨rfl,hI⟩
  ·refine rpG ?_
   refine bi (by omega) ?_
   refine bC ?_
   refine rpG ?_
   refine ⟨?_,hI⟩
   rw [Bool.true_and]
   congr 1
   rw [decide_eq_decide]
   omega
 intro t25 _ _ _ _ _ _ _ _ w'
 rintro ⟨rfl,hI⟩
 refine av (fun hb=>?_) (fun hb=>?_)
 ·rw [Bool.and_eq_true,decide_eq_true_eq] at hb
  refine bi (by omega) ?_
  refine ⟨⟨j+1,rfl,by omega,by omega,?_,hI⟩,by simp [intOf]; omega⟩
  rw [<- hj3,show fr+4 - j=(fr+4 - (j+1))+1 by omega,EK,if_pos hb.1]
 ·have hje:j=en:=by
   rw [<- hj3]
   by_cases h4:j=fr+4
   ·rw [h4,Nat.sub_self]; rfl
   ·rw [show fr+4 - j=(fr+4 - (j+1))+1 by omega,EK,if_neg]
    intro hd
    rw [hd,Bool.true_and,decide_eq_false_iff_not] at hb
    omega
  subst hje
  refine yg aG (by omega) hens ?_
  refine Run.callPure FQ Fm hI (CU _ hdig hlen0 (by rw [Cl hens]; omega) hc2 S) fun w' hI=>?_
  obtain ⟨n,hn⟩:∃ n,n=zy (cut s fr j) 0:=⟨_,rfl⟩
  rw [<- hn]
  refine ai (v:=.int .i64 (n:Int)) rfl ?_
  refine ai (v:=.bool true) rfl ?_
  simp only [<- hn] at hc3 hc4 ⊢
  refine ⟨fun t w'=>t=.bool false/\Inv w [] [.blk b4 (.cells #[.int .i64 0,.int .i64 0,.string ⟨#[]⟩,.slice none 0 0] ab)] S w',?_,?_⟩
  ·refine bU ?_
   refine rpG ?_
   by_cases hfi':i<fr
   ·refine Hc (by omega) ?_
    refine rpG ?_
    refine ba ?_
    have:¬ n=0:=fun h=>hc3 ⟨hfi',h⟩
    rw [decide_eq_false (by omega)]
    refine rpG ?_
    refine iv (by omega) ?_
    refine rpG ?_
    exact ⟨rfl,hI⟩
   ·refine iv (by omega) ?_
    refine rpG ?_
    refine iv (by omega) ?_
    refine rpG ?_
    exact ⟨rfl,hI⟩
  intro t50 _ _ _ _ _ _ _ _ _ _ _ _ _ _ w'
  rintro ⟨rfl,hI⟩
  refine av (fun hb=>by cases hb) (fun _=>?_)
  refine ⟨fun t w'=>t=.int .i64 (if i<fr then -(n:Int) else n)/\Inv w [] [.blk b4 (.cells #[.int .i64 0,.int .i64 0,.string ⟨#[]⟩,.slice none 0 0] ab)] S w',?_,?_⟩
  ·refine dK ?_
   refine aH (fun hb=>?_) (fun hb=>?_)
   ·refine M3 (by omega) ?_
    exact ⟨by rw [if_pos (by omega)],hI⟩
   ·exact ⟨by rw [if_neg (by omega)],hI⟩
  intro t8 _ _ _ _ _ w'
  rintro ⟨rfl,hI⟩
  refine Run.callPure pZ qt hI (jS _ S) fun w' hI=>?_
  refine au hI 0 rfl ac rfl rfl (by simp [Value.oneCell']) fun w' hI=>?_
  refine be hI 0 ac rfl rfl ?_
  exact done hI rfl
end
theorem RdSl.some1 {α:Type} {S:ad} {k:Nat} {R:List Value->α->Prop} {v:Value} {xs:List α} (h:RdSl S k R v xs) (h0:0<xs.length):∃ b o cap,v=.slice (some ⟨b,o,none⟩) xs.length cap:=by
 obtain ⟨b,o,cap,c,E,fz,e,_,_⟩:=h.at_ h0
 exact ⟨b,o,cap,e⟩
theorem DG (s:Bs) (n e:Nat):ws s (n+1) e=if sml s e=true then ws s n (e+1) else e:=rfl
def Iy (o:Option (Bs × Nat)):Value:=match o with
 | none=>.tuple #[.string ⟨#[]⟩,.int .i64 (-1)]
 | some (n,e)=>.tuple #[.string (st n),.int .i64 (e:Int)]
theorem HF (s:Bs) (i:Nat) {j:Nat} (h:j<signs.length) (b:Bs):fV s i (signs.drop j) b=fV s i (signs.drop (j+1)) (if decide (i+signs[j].size<=s.length)=true/\cut s i (i+signs[j].size)=bs signs[j]/\b.length<signs[j].size then bs signs[j] else b):=by
 rw [List.drop_eq_getElem_cons h,fV]
theorem FL:∀ x∈signs,x.size<=3:=by decide
section
attribute [local irreducible] Run CondV ao aI
theorem se {s:Bs} {i:Nat} (hi:i<s.length) (hs:s.length<=100000) (S:ad):Pure Tryz.prog FY [.string (st s),.int .i64 (i:Int)] S (Iy (rU s i)):=by
 intro w hI
 refine vN.2 ?_
 dsimp only[vN,aR]
 obtain ⟨E,hE⟩:∃ E,E=ws s (s.length - i) i:=⟨_,rfl⟩
 have hnm:rU s i=if i+6<E then none else if i<E then some (cut s i E,E) else if fV s i signs []=[] then none else some (fV s i signs [],i+(fV s i signs []).length):=by
  rw [rU,<- hE]
 refine ⟨fun t w'=>∃ e:Nat,t=.int .i64 (e:Int)/\i<=e/\e<=s.length/\ws s (s.length - e) e=E/\Inv w [] [] S w',fun t _=>s.length - (intOf t).toNat,⟨i,rfl,Nat.le_refl _,by omega,hE.symm,hI⟩,?_⟩
 intro t6 _ _ _ _ _ w'
 rintro ⟨e,rfl,he1,he2,he3,hI⟩
 refine Run.callPure ra qH hI (mi s e S) fun w' hI=>?_
 refine av (fun hb=>?_) (fun hb=>?_)
 ·have hlt:=xz hb
  refine bi (by omega) ?_
  refine ⟨⟨e+1,rfl,by omega,by omega,?_,hI⟩,by simp [intOf]; omega⟩
  rw [<- he3,show s.length - e=(s.length - (e+1))+1 by omega,DG,if_pos hb]
 have heE:e=E:=by
  rw [<- he3]
  by_cases h:e=s.length
  ·rw [h,Nat.sub_self,ws]
  ·rw [show s.length - e=(s.length - (e+1))+1 by omega,DG,if_neg (by rw [hb]; decide)]
 subst heE
 refine bi (by omega) ?_
 refine dK ?_
 refine aH (fun hb=>done hI (by rw [hnm,if_pos (by omega)]; rfl)) (fun hb=>?_)
 rw [if_neg (by omega)] at hnm
 refine dK ?_
 refine aH (fun hb=>?_) (fun hb=>?_)
 ·refine yg aG (by omega) (by omega) ?_
  exact done hI (by rw [hnm,if_pos (by omega)]; rfl)
 rw [if_neg (by omega)] at hnm
 refine Run.call0 sP rj hI (pl S) fun v I' S1 w'=>?_
 rintro ⟨rfl,hle,hr⟩ _ hI
 obtain ⟨b,o,cap,rfl⟩:=RdSl.some1 hr (by decide)
 refine ⟨fun t u w'=>∃ (j:Nat) (best:Bs),j<=signs.length/\t=.int .i64 (j:Int)/\u=.string (st best)/\best.length<=3/\fV s i (signs.drop j) best=fV s i signs []/\Inv w [] [] S1 w',fun t _ _=>signs.length - (intOf t).toNat,
  ⟨0,[],Nat.zero_le _,rfl,rfl,by simp,rfl,hI.nil⟩,?_⟩
 intro t9 _ _ t7 _ _ _ _ t65 t64 t63 t62 t61 t60 t59 t58 t57 t56 t55 t54 t53 t52 t51 t50 t49 t48 t47 t46 t45 t44 t43 t42 t41 _ _ _ _ _ _ _ _ _ _ w'
 rintro ⟨j,best,hj0,rfl,rfl,hbl,hbest,hI⟩
 have h15:signs.length=15:=rfl
 refine aD hr bw ?_
 refine bC ?_
 refine aH (fun hji=>?_) (fun hji=>?_)
 ·have hj:j<signs.length:=by omega
  obtain ⟨x,hx⟩:∃ x,x=signs[j]:=⟨_,rfl⟩
  have hx3:x.size<=3:=by rw [hx]; exact FL _ (List.getElem_mem hj)
  obtain ⟨b',o',cap',c,E',fz,hsl,hS,hR⟩:=hr.at_ hj
  cases hsl
  have hcx:c[o+j * 1]?=some (.string x):=by rw [hx]; exact aJ hR 0 _ rfl
  rw [HF s i hj,<- hx] at hbest
  refine ⟨fun u w'=>∃ best',u=.string (st best')/\best'.length<=3/\fV s i (signs.drop (j+1)) best'=fV s i signs []/\Inv w [] [] S1 w',?_,?_⟩
  ·refine aE bw hj ?_
   refine bW aK ((hI.cellS hS).trans hcx) ?_
   refine fO aG ?_
   by_cases hlen:i+x.size<=s.length
   ·cases hq:decide (st (cut s i (i+x.size))=x)
    ·skip
     refine ⟨fun D JF JZ Bm xc xP wN xw zd xK x0 Bt AG Bv Bo AL AJ xf xZ y7 HP H6 HZ Iq Ib Dx w_=>Fx D 0 [Dx=.int .i64 (i:Int),Ib=.int .i64 (x.size:Int),Iq=.int .i64 ((i+x.size:Nat):Int),HZ=.string (st s),H6=.int .i64 (s.length:Int),HP=.bool true,y7=.bool true,xZ=.string (st s),xf=.int .i64 (i:Int),AJ=.int .i64 (i:Int),AL=.int .i64 (x.size:Int),Bo=.int .i64 ((i+x.size:Nat):Int),Bv=.string (st (cut s i (i+x.size))),AG=.slice (some ⟨b,o,none⟩) signs.length cap,Bt=.int .i64 (j:Int),x0=.pointer (some ⟨b,o+j * 1,none⟩),xK=.string x,zd=.bool false,xw=.bool false,wN=.bool false,xP=undef,xc=undef,Bm=undef,JZ=undef,JF=.bool false]/\Inv w [] [] S1 w_,⟨Fx.nil _ _,hI.draw⟩,⟨?_,?_,?_,?_,?_,?_,?_,?_,?_,?_,?_,?_,?_,?_,?_,?_,?_,?_,?_,?_,?_,?_,?_,?_,?_,trivial⟩,?_⟩
     all_goals (intro D bv; intros; rename_i JF JZ Bm xc xP wN xw zd xK x0 Bt AG Bv Bo AL AJ xf xZ y7 HP H6 HZ Iq Ib Dx w_ hA_; have hF_:=hA_.1; obtain ⟨⟨ci,cd,cj,cc,cm,cr,bO,cR,dt,eP,cI,db,d6,fx,fS,gN,iU,lH,o5,gx,rL,sR,sV,tl,Fj,_⟩,hI⟩:=hA_)
     ·exact ⟨hF_.set 0 rfl,hI⟩
     ·exact ⟨hF_.set 1 rfl,hI⟩
     ·obtain rfl:=ci ‹_›
      obtain rfl:=cd ‹_›
      refine bi (by omega) ?_
      exact ⟨hF_.set 2 rfl,hI⟩
     ·exact ⟨hF_.set 3 rfl,hI⟩
     ·obtain rfl:=cc ‹_›
      refine dS aG ?_
      exact ⟨hF_.set 4 rfl,hI⟩
     ·obtain rfl:=cj ‹_›
      obtain rfl:=cm ‹_›
      refine CS (by omega) ?_
      exact ⟨hF_.set 5 rfl,hI⟩
     ·obtain rfl:=cr ‹_›
      exact ⟨hF_.set 6 rfl,hI⟩
     ·obtain rfl:=bO ‹_›
      refine bn ?_
      exact ⟨hF_.set 7 rfl,hI⟩
     ·obtain rfl:=bO ‹_›
      refine bn ?_
      exact ⟨hF_.set 8 rfl,hI⟩
     ·obtain rfl:=bO ‹_›
      refine bn ?_
      exact ⟨hF_.set 9 rfl,hI⟩
     ·obtain rfl:=bO ‹_›
      refine bn ?_
      exact ⟨hF_.set 10 rfl,hI⟩
     ·obtain rfl:=eP ‹_›
      obtain rfl:=cI ‹_›
      obtain rfl:=bO ‹_›
      refine bn ?_; refine bi (by omega) ?_
      exact ⟨hF_.set 11 rfl,hI⟩
     ·obtain rfl:=cR ‹_›
      obtain rfl:=dt ‹_›
      obtain rfl:=db ‹_›
      obtain rfl:=bO ‹_›
      refine bn ?_; refine yg aG (by omega) (by omega) ?_
      exact ⟨hF_.set 12 rfl,hI⟩
     ·obtain rfl:=bO ‹_›
      refine bn ?_
      exact ⟨hF_.set 13 rfl,hI⟩
     ·obtain rfl:=bO ‹_›
      refine bn ?_
      exact ⟨hF_.set 14 rfl,hI⟩
     ·obtain rfl:=fx ‹_›
      obtain rfl:=fS ‹_›
      obtain rfl:=bO ‹_›
      refine bn ?_; refine aE bw hj ?_
      exact ⟨hF_.set 15 rfl,hI⟩
     ·obtain rfl:=gN ‹_›
      obtain rfl:=bO ‹_›
      refine bn ?_; refine bW aK ((hI.cellS hS).trans hcx) ?_
      exact ⟨hF_.set 16 rfl,hI⟩
     ·obtain rfl:=d6 ‹_›
      obtain rfl:=iU ‹_›
      obtain rfl:=bO ‹_›
      refine bn ?_; refine bj ?_; rw [hq]
      exact ⟨hF_.set 17 rfl,hI⟩
     ·obtain rfl:=bO ‹_›
      obtain rfl:=lH ‹_›
      refine wJ ?_
      exact ⟨hF_.set 18 rfl,hI⟩
     ·obtain rfl:=o5 ‹_›
      exact ⟨hF_.set 19 rfl,hI⟩
     ·obtain rfl:=gx ‹_›
      refine cz (c:=false) (b:=true) (by decide) ?_
      exact ⟨hF_.set 20 rfl,hI⟩
     ·obtain rfl:=gx ‹_›
      refine cz (c:=false) (b:=true) (by decide) ?_
      exact ⟨hF_.set 21 rfl,hI⟩
     ·obtain rfl:=sR ‹_›
      obtain rfl:=gx ‹_›
      refine cz (c:=false) (b:=true) (by decide) ?_
      exact ⟨hF_.set 22 rfl,hI⟩
     ·obtain rfl:=rL ‹_›
      obtain rfl:=sV ‹_›
      obtain rfl:=gx ‹_›
      refine cz (c:=false) (b:=true) (by decide) ?_
      exact ⟨hF_.set 23 rfl,hI⟩
     ·obtain rfl:=gx ‹_›
      obtain rfl:=tl ‹_›
      refine oM ?_
      exact ⟨hF_.set 24 rfl,hI⟩
     obtain ⟨rfl,rfl,rfl,rfl,rfl,rfl,rfl,rfl,rfl,rfl,rfl,rfl,rfl,rfl,rfl,rfl,rfl,rfl,rfl,rfl,rfl,rfl,rfl,rfl,rfl,_⟩:=hF_.all
     clear hF_ ci cd cj cc cm cr bO cR dt eP cI db d6 fx fS gN iU lH o5 gx rL sR sV tl Fj
     refine av (fun hb=>by cases hb) (fun _=>?_)
     refine ⟨best,rfl,hbl,?_,hI⟩
     rw [if_neg] at hbest
     ·exact hbest
     ·rintro ⟨_,h2,_⟩
      rw [decide_eq_false_iff_not] at hq
      exact hq (by rw [h2])
    ·rw [decide_eq_true_eq] at hq
     have hq':=hq
     have hq:decide (st (cut s i (i+x.size))=x)=true:=decide_eq_true hq'
     skip
     refine ⟨fun D JF JZ Bm xc xP wN xw zd xK x0 Bt AG Bv Bo AL AJ xf xZ y7 HP H6 HZ Iq Ib Dx w_=>Fx D 0 [Dx=.int .i64 (i:Int),Ib=.int .i64 (x.size:Int),Iq=.int .i64 ((i+x.size:Nat):Int),HZ=.string (st s),H6=.int .i64 (s.length:Int),HP=.bool true,y7=.bool true,xZ=.string (st s),xf=.int .i64 (i:Int),AJ=.int .i64 (i:Int),AL=.int .i64 (x.size:Int),Bo=.int .i64 ((i+x.size:Nat):Int),Bv=.string (st (cut s i (i+x.size))),AG=.slice (some ⟨b,o,none⟩) signs.length cap,Bt=.int .i64 (j:Int),x0=.pointer (some ⟨b,o+j * 1,none⟩),xK=.string x,zd=.bool true,xw=.bool true,wN=.bool true,xP=.int .i64 (x.size:Int),xc=.string (st best),Bm=.int .i64 (best.length:Int),JZ=.bool (decide ((best.length:Int)<(x.size:Int))),JF=.bool (decide ((best.length:Int)<(x.size:Int)))]/\Inv w [] [] S1 w_,⟨Fx.nil _ _,hI.draw⟩,⟨?_,?_,?_,?_,?_,?_,?_,?_,?_,?_,?_,?_,?_,?_,?_,?_,?_,?_,?_,?_,?_,?_,?_,?_,?_,trivial⟩,?_⟩
     all_goals (intro D bv; intros; rename_i JF JZ Bm xc xP wN xw zd xK x0 Bt AG Bv Bo AL AJ xf xZ y7 HP H6 HZ Iq Ib Dx w_ hA_; have hF_:=hA_.1; obtain ⟨⟨ci,cd,cj,cc,cm,cr,bO,cR,dt,eP,cI,db,d6,fx,fS,gN,iU,lH,o5,gx,rL,sR,sV,tl,Fj,_⟩,hI⟩:=hA_)
     ·exact ⟨hF_.set 0 rfl,hI⟩
     ·exact ⟨hF_.set 1 rfl,hI⟩
     ·obtain rfl:=ci ‹_›
      obtain rfl:=cd ‹_›
      refine bi (by omega) ?_
      exact ⟨hF_.set 2 rfl,hI⟩
     ·exact ⟨hF_.set 3 rfl,hI⟩
     ·obtain rfl:=cc ‹_›
      refine dS aG ?_
      exact ⟨hF_.set 4 rfl,hI⟩
     ·obtain rfl:=cj ‹_›
      obtain rfl:=cm ‹_›
      refine CS (by omega) ?_
      exact ⟨hF_.set 5 rfl,hI⟩
     ·obtain rfl:=cr ‹_›
      exact ⟨hF_.set 6 rfl,hI⟩
     ·obtain rfl:=bO ‹_›
      refine bn ?_
      exact ⟨hF_.set 7 rfl,hI⟩
     ·obtain rfl:=bO ‹_›
      refine bn ?_
      exact ⟨hF_.set 8 rfl,hI⟩
     ·obtain rfl:=bO ‹_›
      refine bn ?_
      exact ⟨hF_.set 9 rfl,hI⟩
     ·obtain rfl:=bO ‹_›
      refine bn ?_
      exact ⟨hF_.set 10 rfl,hI⟩
     ·obtain rfl:=eP ‹_›
      obtain rfl:=cI ‹_›
      obtain rfl:=bO ‹_›
      refine bn ?_; refine bi (by omega) ?_
      exact ⟨hF_.set 11 rfl,hI⟩
     ·obtain rfl:=cR ‹_›
      obtain rfl:=dt ‹_›
      obtain rfl:=db ‹_›
      obtain rfl:=bO ‹_›
      refine bn ?_; refine yg aG (by omega) (by omega) ?_
      exact ⟨hF_.set 12 rfl,hI⟩
     ·obtain rfl:=bO ‹_›
      refine bn ?_
      exact ⟨hF_.set 13 rfl,hI⟩
     ·obtain rfl:=bO ‹_›
      refine bn ?_
      exact ⟨hF_.set 14 rfl,hI⟩
     ·obtain rfl:=fx ‹_›
      obtain rfl:=fS ‹_›
      obtain rfl:=bO ‹_›
      refine bn ?_; refine aE bw hj ?_
      exact ⟨hF_.set 15 rfl,hI⟩
     ·obtain rfl:=gN ‹_›
      obtain rfl:=bO ‹_›
      refine bn ?_; refine bW aK ((hI.cellS hS).trans hcx) ?_
      exact ⟨hF_.set 16 rfl,hI⟩
     ·obtain rfl:=d6 ‹_›
      obtain rfl:=iU ‹_›
      obtain rfl:=bO ‹_›
      refine bn ?_; refine bj ?_; rw [hq]
      exact ⟨hF_.set 17 rfl,hI⟩
     ·obtain rfl:=bO ‹_›
      obtain rfl:=lH ‹_›
      refine wJ ?_
      exact ⟨hF_.set 18 rfl,hI⟩
     ·obtain rfl:=o5 ‹_›
      exact ⟨hF_.set 19 rfl,hI⟩
     ·obtain rfl:=gx ‹_›
      refine bn ?_
      exact ⟨hF_.set 20 rfl,hI⟩
     ·obtain rfl:=gx ‹_›
      refine bn ?_
      exact ⟨hF_.set 21 rfl,hI⟩
     ·obtain rfl:=sR ‹_›
      obtain rfl:=gx ‹_›
      refine bn ?_; refine dS aG ?_
      exact ⟨hF_.set 22 rfl,hI⟩
     ·obtain rfl:=rL ‹_›
      obtain rfl:=sV ‹_›
      obtain rfl:=gx ‹_›
      refine bn ?_; refine dK ?_
      exact ⟨hF_.set 23 rfl,hI⟩
     ·obtain rfl:=gx ‹_›
      obtain rfl:=tl ‹_›
      refine wJ ?_
      exact ⟨hF_.set 24 rfl,hI⟩
     obtain ⟨rfl,rfl,rfl,rfl,rfl,rfl,rfl,rfl,rfl,rfl,rfl,rfl,rfl,rfl,rfl,rfl,rfl,rfl,rfl,rfl,rfl,rfl,rfl,rfl,rfl,_⟩:=hF_.all
     clear hF_ ci cd cj cc cm cr bO cR dt eP cI db d6 fx fS gN iU lH o5 gx rL sR sV tl Fj
     have hcut:cut s i (i+x.size)=bs x:=by rw [<- Bc (cut s i (i+x.size)),hq']
     refine aH (fun hb=>?_) (fun hb=>?_)
     ·refine aE bw hj ?_
      refine bW aK ((hI.cellS hS).trans hcx) ?_
      refine ⟨bs x,rfl,by rw [<- hcut,Cl hlen]; omega,?_,hI⟩
      rw [if_pos ⟨decide_eq_true hlen,hcut,by omega⟩] at hbest
      exact hbest
     ·refine ⟨best,rfl,hbl,?_,hI⟩
      rw [if_neg] at hbest
      ·exact hbest
      ·rintro ⟨_,_,h3⟩
       omega
   ·skip
    refine ⟨fun D JF JZ Bm xc xP wN xw zd xK x0 Bt AG Bv Bo AL AJ xf xZ y7 HP H6 HZ Iq Ib Dx w_=>Fx D 0 [Dx=.int .i64 (i:Int),Ib=.int .i64 (x.size:Int),Iq=.int .i64 ((i+x.size:Nat):Int),HZ=.string (st s),H6=.int .i64 (s.length:Int),HP=.bool false,y7=.bool false,xZ=undef,xf=undef,AJ=undef,AL=undef,Bo=undef,Bv=undef,AG=undef,Bt=undef,x0=undef,xK=undef,zd=undef,xw=.bool false,wN=.bool false,xP=undef,xc=undef,Bm=undef,JZ=undef,JF=.bool false]/\Inv w [] [] S1 w_,⟨Fx.nil _ _,hI.draw⟩,⟨?_,?_,?_,?_,?_,?_,?_,?_,?_,?_,?_,?_,?_,?_,?_,?_,?_,?_,?_,?_,?_,?_,?_,?_,?_,trivial⟩,?_⟩
    all_goals (intro D bv; intros; rename_i JF JZ Bm xc xP wN xw zd xK x0 Bt AG Bv Bo AL AJ xf xZ y7 HP H6 HZ Iq Ib Dx w_ hA_; have hF_:=hA_.1; obtain ⟨⟨ci,cd,cj,cc,cm,cr,bO,cR,dt,eP,cI,db,d6,fx,fS,gN,iU,lH,o5,gx,rL,sR,sV,tl,Fj,_⟩,hI⟩:=hA_)
    ·exact ⟨hF_.set 0 rfl,hI⟩
    ·exact ⟨hF_.set 1 rfl,hI⟩
    ·obtain rfl:=ci ‹_›
     obtain rfl:=cd ‹_›
     refine bi (by omega) ?_
     exact ⟨hF_.set 2 rfl,hI⟩
    ·exact ⟨hF_.set 3 rfl,hI⟩
    ·obtain rfl:=cc ‹_›
     refine dS aG ?_
     exact ⟨hF_.set 4 rfl,hI⟩
    ·obtain rfl:=cj ‹_›
     obtain rfl:=cm ‹_›
     refine KU (by omega) ?_
     exact ⟨hF_.set 5 rfl,hI⟩
    ·obtain rfl:=cr ‹_›
     exact ⟨hF_.set 6 rfl,hI⟩
    ·obtain rfl:=bO ‹_›
     refine cz (c:=false) (b:=true) (by decide) ?_
     exact ⟨hF_.set 7 rfl,hI⟩
    ·obtain rfl:=bO ‹_›
     refine cz (c:=false) (b:=true) (by decide) ?_
     exact ⟨hF_.set 8 rfl,hI⟩
    ·obtain rfl:=bO ‹_›
     refine cz (c:=false) (b:=true) (by decide) ?_
     exact ⟨hF_.set 9 rfl,hI⟩
    ·obtain rfl:=bO ‹_›
     refine cz (c:=false) (b:=true) (by decide) ?_
     exact ⟨hF_.set 10 rfl,hI⟩
    ·obtain rfl:=eP ‹_›
     obtain rfl:=cI ‹_›
     obtain rfl:=bO ‹_›
     refine cz (c:=false) (b:=true) (by decide) ?_
     exact ⟨hF_.set 11 rfl,hI⟩
    ·obtain rfl:=cR ‹_›
     obtain rfl:=dt ‹_›
     obtain rfl:=db ‹_›
     obtain rfl:=bO ‹_›
     refine cz (c:=false) (b:=true) (by decide) ?_
     exact ⟨hF_.set 12 rfl,hI⟩
    ·obtain rfl:=bO ‹_›
     refine cz (c:=false) (b:=true) (by decide) ?_
     exact ⟨hF_.set 13 rfl,hI⟩
    ·obtain rfl:=bO ‹_›
     refine cz (c:=false) (b:=true) (by decide) ?_
     exact ⟨hF_.set 14 rfl,hI⟩
    ·obtain rfl:=fx ‹_›
     obtain rfl:=fS ‹_›
     obtain rfl:=bO ‹_›
     refine cz (c:=false) (b:=true) (by decide) ?_
     exact ⟨hF_.set 15 rfl,hI⟩
    ·obtain rfl:=gN ‹_›
     obtain rfl:=bO ‹_›
     refine cz (c:=false) (b:=true) (by decide) ?_
     exact ⟨hF_.set 16 rfl,hI⟩
    ·obtain rfl:=d6 ‹_›
     obtain rfl:=iU ‹_›
     obtain rfl:=bO ‹_›
     refine cz (c:=false) (b:=true) (by decide) ?_
     exact ⟨hF_.set 17 rfl,hI⟩
    ·obtain rfl:=bO ‹_›
     obtain rfl:=lH ‹_›
     refine oM ?_
     exact ⟨hF_.set 18 rfl,hI⟩
    ·obtain rfl:=o5 ‹_›
     exact ⟨hF_.set 19 rfl,hI⟩
    ·obtain rfl:=gx ‹_›
     refine cz (c:=false) (b:=true) (by decide) ?_
     exact ⟨hF_.set 20 rfl,hI⟩
    ·obtain rfl:=gx ‹_›
     refine cz (c:=false) (b:=true) (by decide) ?_
     exact ⟨hF_.set 21 rfl,hI⟩
    ·obtain rfl:=sR ‹_›
     obtain rfl:=gx ‹_›
     refine cz (c:=false) (b:=true) (by decide) ?_
     exact ⟨hF_.set 22 rfl,hI⟩
    ·obtain rfl:=rL ‹_›
     obtain rfl:=sV ‹_›
     obtain rfl:=gx ‹_›
     refine cz (c:=false) (b:=true) (by decide) ?_
     exact ⟨hF_.set 23 rfl,hI⟩
    ·obtain rfl:=gx ‹_›
     obtain rfl:=tl ‹_›
     refine oM ?_
     exact ⟨hF_.set 24 rfl,hI⟩
    obtain ⟨rfl,rfl,rfl,rfl,rfl,rfl,rfl,rfl,rfl,rfl,rfl,rfl,rfl,rfl,rfl,rfl,rfl,rfl,rfl,rfl,rfl,rfl,rfl,rfl,rfl,_⟩:=hF_.all
    clear hF_ ci cd cj cc cm cr bO cR dt eP cI db d6 fx fS gN iU lH o5 gx rL sR sV tl Fj
    refine av (fun hb=>by cases hb) (fun _=>?_)
    refine ⟨best,rfl,hbl,?_,hI⟩
    rw [if_neg] at hbest
    ·exact hbest
    ·rintro ⟨h1,_⟩
     rw [decide_eq_true_eq] at h1
     exact hlen h1
  intro t7 _ _ _ _ _ _ _ _ _ _ _ _ _ _ _ _ _ _ _ _ _ _ _ _ _ _ _ _ _ _ _ _ _ _ _ w'
  rintro ⟨best',rfl,hbl',hb',hI⟩
  refine bi (by omega) ?_
  exact ⟨⟨j+1,best',hj,rfl,rfl,hbl',hb',hI⟩,by simp [intOf]; omega⟩
 ·have:j=signs.length:=by omega
  subst this
  rw [List.drop_length,fV] at hbest
  rw [<- hbest] at hnm
  refine bj ?_
  refine aH (fun hb=>?_) (fun hb=>?_)
  ·have:best=[]:=by rw [<- Bc best,hb]
   exact iy hI hle (by rw [hnm,if_pos this]; rfl)
  ·have:¬ best=[]:=fun h=>hb (by rw [h])
   refine dS aG ?_
   refine bi (by omega) ?_
   exact iy hI hle (by rw [hnm,if_neg this]; rfl)
end
theorem uy (s:Bs) (i:Nat):∀ (l:List ByteArray) (b:Bs),(∀ x∈l,x.size<=3)->b.length<=3->i+b.length<=s.length->i+(fV s i l b).length<=s.length/\(fV s i l b).length<=3
 | [],b,_,h2,h3=>⟨h3,h2⟩
 | x::l,b,h1,h2,h3=>by
  rw [fV]
  have hx:(bs x).length=x.size:=Array.length_toList
  split
  ·rename_i h
   exact uy s i l _ (fun y hy=>h1 y (List.mem_cons_of_mem _ hy)) (by rw [hx]; exact h1 x (List.mem_cons_self ..)) (by rw [hx]; exact of_decide_eq_true h.1)
  ·exact uy s i l _ (fun y hy=>h1 y (List.mem_cons_of_mem _ hy)) h2 h3
theorem Iu (s:Bs):∀ (n e:Nat),e<=ws s n e/\ws s n e<=e+n
 | 0,e=>by simp [ws]
 | n+1,e=>by
  rw [ws]
  split
  ·have:=Iu s n (e+1); omega
  ·omega
theorem qN {s:Bs} {i:Nat} {n:Bs} {e:Nat} (hi:i<s.length) (h:rU s i=some (n,e)):i<e/\e<=s.length/\n.length<=6/\n≠[]:=by
 have hl:=Iu s (s.length - i) i
 have hb:=uy s i signs [] FL (by simp) (by simpa using Nat.le_of_lt hi)
 unfold rU at h
 simp only [] at h
 split at h
 ·cases h
 ·split at h
  ·simp only [Option.some.injEq,Prod.mk.injEq] at h
   obtain ⟨rfl,rfl⟩:=h
   rename_i h1 h2
   have hc:=Cl (s:=s) (a:=i) (b:=ws s (s.length - i) i) (by omega)
   refine ⟨h2,by omega,by omega,fun h=>?_⟩
   rw [h] at hc
   simp at hc
   omega
  ·split at h
   ·cases h
   ·simp only [Option.some.injEq,Prod.mk.injEq] at h
    obtain ⟨rfl,rfl⟩:=h
    rename_i h3
    have:0<(fV s i signs []).length:=by
     cases he:fV s i signs [] with
     | nil=>exact absurd he h3
     | cons a l=>simp
    exact ⟨by omega,by omega,by omega,h3⟩
def opV (o:Option (Bs × Nat)) (i:Nat):Value:=match o with
 | none=>.tuple #[.string ⟨#[]⟩,.int .i64 (i:Int)]
 | some (n,e)=>.tuple #[.string (st n),.int .i64 (e:Int)]
theorem Lh {s:Bs} {i:Nat} {n:Bs} {e:Nat} (h:opF s i=some (n,e)):i<e/\e<=s.length/\n.length<=6/\n≠[]:=by
 unfold opF at h
 obtain ⟨fr,hfr⟩:∃ fr,fr=if sgn s i 32=true then i+1 else i:=⟨_,rfl⟩
 simp only [<- hfr] at h
 have hfi:i<=fr:=by rw [hfr]; split <;> omega
 split at h
 ·cases h
 rename_i hlt
 split at h
 ·cases h
 rename_i nm nx hnm
 obtain ⟨h1,h2,h3,h4⟩:=qN (by omega) hnm
 split at h
 ·cases h
 rename_i hc
 simp only [not_or,not_and,Bool.not_eq_false] at hc
 simp only [Option.some.injEq,Prod.mk.injEq] at h
 obtain ⟨rfl,rfl⟩:=h
 refine ⟨by split <;> omega,?_,h3,h4⟩
 split
 ·rename_i hw
  have:=fH (hc.2.2 hw)
  omega
 ·exact h2
section
attribute [local irreducible] Run CondV ao aI
theorem Gy {s:Bs} {i:Nat} (hs:s.length<=100000) (hi:i<=s.length) (S:ad):Pure Tryz.prog K4 [.string (st s),.int .i64 (i:Int)] S (opV (opF s i) i):=by
 intro w hI
 refine Bx.2 ?_
 dsimp only[Bx,aR]
 obtain ⟨fr,hfr⟩:∃ fr,fr=if sgn s i 32=true then i+1 else i:=⟨_,rfl⟩
 have hfi:i<=fr/\fr<=i+1:=by rw [hfr]; split <;> omega
 obtain ⟨r,hr⟩:∃ r,r=opF s i:=⟨_,rfl⟩
 rw [<- hr]
 unfold opF at hr
 simp only [<- hfr] at hr
 refine ⟨fun t w'=>t=.int .i64 (fr:Int)/\Inv w [] [] S w',?_,?_⟩
 ·refine Run.callPure bY b0 hI (bL s i 32 S) fun w' hI=>?_
  refine av (fun hb=>?_) (fun hb=>?_)
  ·refine bi (by omega) ?_
   rw [if_pos hb] at hfr
   exact ⟨by rw [hfr]; congr 1,hI⟩
  ·rw [if_neg (by rw [hb]; decide)] at hfr
   exact ⟨by rw [hfr],hI⟩
 intro t6 _ _ _ _ _ w'
 rintro ⟨rfl,hI⟩
 refine dS aG ?_
 refine li ?_
 refine aH (fun hb=>?_) (fun hb=>?_)
 ·rw [if_pos (by omega)] at hr
  exact done hI (by rw [hr]; rfl)
 rw [if_neg (by omega)] at hr
 refine Run.callPure uz vJ hI (se (by omega) hs S) fun w' hI=>?_
 cases hnm:rU s fr with
 | none=>
  rw [hnm] at hr
  simp only [] at hr
  simp only [Iy]
  refine ai rfl ?_
  refine ai rfl ?_
  refine ⟨fun t w'=>t=.bool true/\Inv w [] [] S w',?_,?_⟩
  ·refine yh (by omega) ?_
   refine rpG ?_
   exact ⟨rfl,hI⟩
  intro t33 _ _ _ _ _ _ w'
  rintro ⟨rfl,hI⟩
  exact av (fun _=>done hI (by rw [hr]; rfl)) (fun hb=>by cases hb)
 | some q=>
  obtain ⟨nm,nx⟩:=q
  rw [hnm] at hr
  simp only [] at hr
  obtain ⟨h1,h2,h3,h4⟩:=qN (by omega) hnm
  simp only [Iy]
  refine ai (v:=.string (st nm)) rfl ?_
  refine ai (v:=.int .i64 (nx:Int)) rfl ?_
  refine ⟨fun t w'=>t=.bool (decide (bE (st nm)=0))/\Inv w [] [] S w',?_,?_⟩
  ·refine dC (by omega) ?_
   refine rpG ?_
   refine Run.callPure dU dV hI (cX _ S) fun w' hI=>?_
   refine ba ?_
   refine rpG ?_
   exact ⟨rfl,hI⟩
  intro t33 _ _ _ _ _ _ w'
  rintro ⟨rfl,hI⟩
  refine aH (fun hb=>?_) (fun hb=>?_)
  ·rw [if_pos (.inl hb)] at hr
   exact done hI (by rw [hr]; rfl)
  obtain ⟨word,hword⟩:∃ word,word=(decide (nm=[105,115]) || decide (nm=[109,111,100])):=⟨_,rfl⟩
  rw [<- hword] at hr
  refine ⟨fun t w'=>t=.bool word/\Inv w [] [] S w',?_,?_⟩
  ·refine yX (b:=[105,115]) ?_
   cases h5:decide (nm=[105,115])
   ·refine rpG ?_
    refine yX (b:=[109,111,100]) ?_
    refine rpG ?_
    exact ⟨by rw [hword,h5,Bool.false_or],hI⟩
   ·refine rpG ?_
    exact ⟨by rw [hword,h5,Bool.true_or],hI⟩
  intro t9 _ _ _ _ _ _ w'
  rintro ⟨rfl,hI⟩
  refine ⟨fun t w'=>t=.bool (decide (word≠decide (i<fr)) || (word && !sgn s nx 32))/\Inv w [] [] S w',?_,?_⟩
  ·refine dK ?_
   refine JY wQ ?_
   have e1:decide ((i:Int)<(fr:Int))=decide (i<fr):=by rw [decide_eq_decide]; omega
   rw [e1]
   cases h6:decide (i<fr) <;> cases word
   ·refine rpG ?_
    exact ⟨by rfl,hI⟩
   ·refine rpG ?_
    exact ⟨by rfl,hI⟩
   ·refine rpG ?_
    exact ⟨by rfl,hI⟩
   ·refine rpG ?_
    refine Run.callPure bY b0 hI (bL s nx 32 S) fun w' hI=>?_
    refine bU ?_
    refine rpG ?_
    exact ⟨by simp,hI⟩
  intro t54 _ _ _ _ _ _ _ _ _ _ _ _ _ w'
  rintro ⟨rfl,hI⟩
  refine av (fun hb'=>?_) (fun hb'=>?_)
  ·rw [if_pos] at hr
   ·exact done hI (by rw [hr]; rfl)
   ·rw [Bool.or_eq_true,decide_eq_true_eq,Bool.and_eq_true,Bool.not_eq_true'] at hb'
    exact .inr hb'
  ·rw [if_neg] at hr
   ·refine ⟨fun t w'=>t=.int .i64 ((if word=true then nx+1 else nx:Nat):Int)/\Inv w [] [] S w',?_,?_⟩
    ·refine av (fun hw=>?_) (fun hw=>?_)
     ·refine bi (by omega) ?_
      exact ⟨by rw [if_pos hw]; congr 1,hI⟩
     ·exact ⟨by rw [if_neg (by rw [hw]; decide)],hI⟩
    intro t8 _ _ _ w'
    rintro ⟨rfl,hI⟩
    exact done hI (by rw [hr]; rfl)
   ·rw [Bool.or_eq_false_iff,decide_eq_false_iff_not] at hb'
    rintro (h|h|⟨h,h'⟩)
    ·exact hb h
    ·exact hb'.1 h
    ·rw [h,h'] at hb'
     simp at hb'
end
end Go.Proofs.YtcpgagfdeflbkaaGreatDoor
