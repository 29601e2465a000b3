/- Texts read: spec.l1Struct, l1Chain, l2Read, l2Prime, l2Terms, l2Items. (printed by gen_read.py) -/
import Derived.Test.YtemmhhdnlbmicaaGreatZMg3
namespace Go.Proofs.YtemmhhdnlbmicaaGreat
open Go Go.RowKit
theorem MJ {s:Bs} {i e:Nat} {t:T} (hn:LS s i=some (t,e)):i<e/\e<=s.length:=by
 unfold LS at hn
 obtain ⟨fr,hfr⟩:∃ fr,fr=if sgn s i 45=true then i+1 else i:=⟨_,rfl⟩
 simp only [<- hfr] at hn
 have hle:=E4 s 4 fr
 have hfi:i<=fr/\fr<=i+1:=by rw [hfr]; split <;> omega
 split at hn
 ·cases hn
 rename_i hc
 simp only [not_or] at hc
 simp only [Option.some.injEq,Prod.mk.injEq] at hn
 obtain ⟨_,rfl⟩:=hn
 have h2:fr<pP s 4 fr:=by
  rcases Nat.lt_or_ge fr (pP s 4 fr) with h|h
  ·exact h
  ·refine absurd ?_ hc.1
   rw [cut,List.drop_eq_nil_of_le]
   rw [List.length_take]
   omega
 have:=AR (tO s 4 fr (pP s 4 fr - 1) (by omega) (by omega))
 omega
theorem gL:∀ f:Nat,(∀ s i d l t n,iP f s i d l=some (t,n)->i<n/\n<=s.length)/\(∀ s i d l t0 t n,Gy f s i d l t0=some (t,n)->i<=s.length->i<=n/\n<=s.length)/\
  (∀ s i d t n,rv f s i d=some (t,n)->i<n/\n<=s.length)/\(∀ s i d e o acc ts n,gU f s i d e o acc=some (ts,n)->i<n/\n<s.length)
 | 0=>⟨fun s i d l t n h=>by simp [iP] at h,fun s i d l t0 t n h=>by simp [Gy] at h,fun s i d t n h=>by simp [rv] at h,fun s i d e o acc ts n h=>by simp [gU] at h⟩
 | f+1=>by
  obtain ⟨h1,h2,h3,h4⟩:=gL f
  refine ⟨fun s i d l t n h=>?_,fun s i d l t0 t n h hi=>?_,fun s i d t n h=>?_,fun s i d e o acc ts n h=>?_⟩
  ·cases l with
   | zero=>rw [iP] at h; exact h3 _ _ _ _ _ h
   | succ l=>
    rw [iP] at h
    split at h
    ·cases h
    ·rename_i t' n' hr
     have a:=h1 _ _ _ _ _ _ hr
     have b:=h2 _ _ _ _ _ _ _ h a.2
     omega
  ·rw [Gy] at h
   split at h
   ·simp only [Option.some.injEq,Prod.mk.injEq] at h
    omega
   ·rename_i name after ho
    have a:=MC ho
    split at h
    ·split at h
     ·cases h
     ·rename_i r e hr
      have b:=h1 _ _ _ _ _ _ hr
      split at h
      ·simp only [Option.some.injEq,Prod.mk.injEq] at h
       omega
      ·have c:=h2 _ _ _ _ _ _ _ h b.2
       omega
    ·simp only [Option.some.injEq,Prod.mk.injEq] at h
     omega
  ·rw [rv] at h
   split at h
   ·cases h
   rename_i h0
   have h0:i<s.length:=by omega
   split at h
   ·split at h
    ·cases h
    ·rename_i t' n' hr
     have a:=h1 _ _ _ _ _ _ hr
     split at h
     ·rename_i hs
      have:=gf hs
      simp only [Option.some.injEq,Prod.mk.injEq] at h
      omega
     ·cases h
   ·split at h
    ·split at h
     ·cases h
     ·rename_i ts n' hr
      have a:=h4 _ _ _ _ _ _ _ _ hr
      split at h
      ·simp only [Option.some.injEq,Prod.mk.injEq] at h
       omega
      ·split at h
       ·cases h
       ·rename_i t' e hr2
        have b:=h1 _ _ _ _ _ _ hr2
        split at h
        ·rename_i hs
         have:=gf hs
         simp only [Option.some.injEq,Prod.mk.injEq] at h
         omega
        ·cases h
    ·split at h
     ·simp only [Option.some.injEq,Prod.mk.injEq] at h
      omega
     ·split at h
      ·exact MJ h
      ·split at h
       ·cases h
       ·rename_i name n' hn
        have a:=lW h0 hn
        split at h
        ·simp only [Option.some.injEq,Prod.mk.injEq] at h
         omega
        ·split at h
         ·cases h
         ·rename_i ts e hr
          have b:=h4 _ _ _ _ _ _ _ _ hr
          simp only [Option.some.injEq,Prod.mk.injEq] at h
          omega
  ·rw [gU] at h
   split at h
   ·cases h
   ·rename_i t' n' hr
    have a:=h1 _ _ _ _ _ _ hr
    split at h
    ·rename_i hs
     have hlt:n'<s.length:=hs.elim gf gf
     simp only [Option.some.injEq,Prod.mk.injEq] at h
     omega
    ·split at h
     ·have b:=h4 _ _ _ _ _ _ _ _ h
      omega
     ·cases h
abbrev N0 (t:T):Value->List Item->az->Prop:=fun v I' S'=>I'=[]/\∃ cs,v=.agg cs.toArray/\RdT S' cs t
abbrev Lq (t:T) (n:Nat):Value->List Item->az->Prop:=fun v I' S'=>I'=[]/\∃ cs,v=.tuple #[.agg cs.toArray,.int .i64 (n:Int)]/\RdT S' cs t
abbrev Ng (ts:List T) (n:Nat):Value->List Item->az->Prop:=fun v I' S'=>I'=[]/\∃ u,v=.tuple #[u,.int .i64 (n:Int)]/\RdSl S' 4 (RdT S') u ts
theorem iM (S:az):RdSl S 4 (RdT S) (.slice none 0 0) []:=⟨none,0,rfl,Nat.le_refl _,Nat.zero_le _,.inl rfl⟩
theorem Iv {S:az} {b:Nat} {E:TypeId} {a c:T} {k1 n1 k2 n2:Int} {s1 s2:ByteArray} {v1 v2:Value} (hS:S b=some (.cells #[.int .i64 k1,.int .i64 n1,.string s1,v1,.int .i64 k2,.int .i64 n2,.string s2,v2] E))
  (h1:RdT S [.int .i64 k1,.int .i64 n1,.string s1,v1] a) (h2:RdT S [.int .i64 k2,.int .i64 n2,.string s2,v2] c):RdSl S 4 (RdT S) (.slice (some ⟨b,0,none⟩) 2 2) [a,c]:=by
 refine ⟨_,2,rfl,Nat.le_refl _,by simp [maxLen],.inr ⟨b,0,_,E,(0,0),rfl,hS,fun i hi=>?_⟩⟩
 match i,hi with
 | 0,_=>exact h1
 | 1,_=>exact h2
section
variable {w w0:World} {X:List Nat} {L:List Item} {S:az} {K:Value->World->Prop}
attribute [local irreducible] Run CondV aj bd
theorem ev {P:Program} {T:TypeId} {cx cy:Bool} {x y:Int} {a b:Nat} (hx:x=a) (hy:y=b) (hr:a+b<=1000000000000000) (hk:K (.int .i64 ((a+b:Nat):Int)) w):Run P (aq .add T cx cy (.int .i64 x) (.int .i64 y)) w K:=by
 subst hx hy
 refine bL (by omega) ?_
 rw [<- Int.natCast_add]
 exact hk
theorem uG {P:Program} {T:TypeId} {cx cy:Bool} {x y:Int} {a b:Nat} (hx:x=a) (hy:y=b) (hle:b<=a) (hr:a<=1000000000000000) (hk:K (.int .i64 ((a - b:Nat):Int)) w):Run P (aq .sub T cx cy (.int .i64 x) (.int .i64 y)) w K:=by
 subst hx hy
 refine qz (by omega) ?_
 rw [<- Int.ofNat_sub hle]
 exact hk
theorem lH {s:ByteArray} {v:Value} (hv:∃ p n m,v=.slice p n m) (hk:K (.agg #[.int .i64 3,.int .i64 0,.string s,v]) w):Run Tryz.prog (dy ab [(0,.int .i64 3),(2,.string s),(3,v)]) w K:=by
 obtain ⟨p,n,m,rfl⟩:=hv
 refine Run.of (v:=.agg #[.int .i64 3,.int .i64 0,.string s,.slice p n m]) (w':=w) ?_ hk
 unfold dy
 rw [Sem.run_bind,run_build w ab _ #[.int .i64 3,.int .i64 0,.string s,.slice p n m] (by kernel_rfl),Result.andThen_ok]
 rfl
theorem uc (s:ByteArray) {ks:List T} {u:Value} (h:RdSl S 4 (RdT S) u ks) (hk:ks.length<=1000000):Tri Tryz.prog rN [.string s,u] [] S fun v I' S'=>S'=S/\∃ kv css,v=.agg #[.int .i64 3,.int .i64 0,.string s,kv]/\I'=[bj kv ab 4 css]/\Rows 4 (RdT S) css ks:=by
 intro w hI
 refine uY ?_
 unfold qG
 refine bw hI bG fun b4 w' hI=>?_
 refine eB hI bD fun v0 w' hI=>?_
 have hI:Inv w [] [.blk b4 (.cells #[.int .i64 0,.int .i64 0,.string ⟨#[]⟩,.slice none 0 0] ab),bj v0 ab 4 []] S w':=hI
 refine jU hI 1 (css:=[]) bD (by omega) rfl h (fun _ _=>RdT.length) (fun _ _=>RdT.one) (by simp; omega) (by omega) fun v' w' css2 hR hI=>?_
 have hI:Inv w [] [.blk b4 (.cells #[.int .i64 0,.int .i64 0,.string ⟨#[]⟩,.slice none 0 0] ab),bj v' ab 4 css2] S w':=hI
 obtain ⟨a,n,c,rfl⟩:=hI.rowSlice 1 rfl
 refine lH ⟨_,_,_,rfl⟩ ?_
 refine bf hI 0 rfl ai rfl rfl (by simp [Value.oneCell']) fun w' hI=>?_
 refine bZ hI 0 ai rfl rfl ?_
 exact ⟨_,_,_,rfl,hI.sub (List.sublist_cons_self _ _),Ext.refl _ _ _,rfl,_,css2,rfl,rfl,hR⟩
theorem eo (s:ByteArray) (hs:s.size<=maxLen) {ks:List T} {u:Value} (h:RdSl S 4 (RdT S) u ks) (hk:ks.length<=1000000):Tri Tryz.prog rN [.string s,u] [] S (N0 (.mk 3 0 s ks)):=by
 intro w hI
 refine (uc s h hk w hI).mono ?_
 rintro e w' ⟨v,I',S',rfl,hI,hE,rfl,kv,css,rfl,rfl,hR⟩
 obtain ⟨S1,hE1,hrd,hI⟩:=Inv.lendExt (A:=[]) hI
 have hrs:=RowRd.rows (hR.monoR fun _ _ h=>RdT.mono hE1.1 h) hrd
 exact ⟨_,[],S1,rfl,hI,hE.trans hE1,rfl,[.int .i64 3,.int .i64 0,.string s,kv],rfl,RdT.iff.2 ⟨kv,rfl,by simp [inI,T.kind],by simp [inI,T.n],hs,hrs⟩⟩
theorem IY {ts:List T} {j:Nat} (h:j<ts.length) (t:T):iw (ts.drop j) t=FX ts[j] (iw (ts.drop (j+1)) t):=by
 rw [List.drop_eq_getElem_cons h,iw]
theorem qo {ts:List T} {t:T} {u:Value} {cs:List Value} (h:RdSl S 4 (RdT S) u ts) (ht:RdT S cs t) (hl:ts.length<=1000000):Tri Tryz.prog Hb [u,.agg cs.toArray] [] S (N0 (iw ts t)):=by
 intro w hI
 obtain ⟨kv,rfl,g1,g2,g3,g4⟩:=RdT.iff.1 ht
 obtain ⟨ka,kn,kc,hkv⟩:∃ a n m,kv=.slice a n m:=by
  obtain ⟨a,m,e,_⟩:=g4
  exact ⟨_,_,_,e⟩
 refine x1 ?_
 unfold sz
 refine bM hI fun b3 w' hI=>?_
 refine bw hI bG fun b4 w' hI=>?_
 refine ba hI 0 ai rfl rfl ?_
 refine bw hI bG fun b5 w' hI=>?_
 refine bf hI 2 rfl ai rfl rfl (by simp [Value.oneCell',Value.cells,hkv]) fun w' hI=>?_
 refine a9 h av ?_
 refine qz (by omega) ?_
 obtain ⟨B3,hB3⟩:∃ B3,B3=Item.blk b3 (.cells #[.int .i64 t.kind,.int .i64 t.n,.string t.name,kv] ab):=⟨_,rfl⟩
 have hI:Inv w [] [B3,.blk b4 (.cells #[.int .i64 0,.int .i64 0,.string ⟨#[]⟩,.slice none 0 0] ab),.blk b5 (.cells #[.int .i64 t.kind,.int .i64 t.n,.string t.name,kv] ab)] S w':=by rw [hB3]; exact hI
 refine ⟨fun i w'=>∃ (j:Nat) (S1:az) (ds:List Value),j<=ts.length/\i=.int .i64 ((j:Int) - 1)/\Ext w.heap.size [] S S1/\RdT S1 ds (iw (ts.drop j) t)/\Inv w [] [B3,.blk b4 (.cells #[.int .i64 0,.int .i64 0,.string ⟨#[]⟩,.slice none 0 0] ab),.blk b5 (.cells ds.toArray ab)] S1 w',
  fun i _=>(intOf i+1).toNat,⟨ts.length,S,_,Nat.le_refl _,rfl,Ext.refl _ _ _,by rw [List.drop_length]; exact ht,hI⟩,?_⟩
 intro t6 _ _ t21 t20 t19 t18 t17 t16 t15 _ _ w'
 rintro ⟨j,S1,ds,hj,rfl,hE,hds,hI⟩
 by_cases hj0:j=0
 ·subst hj0
  refine pa (by omega) ?_
  refine a8 (fun hb=>by cases hb) (fun _=>?_)
  obtain ⟨kv',rfl,_,_,_,a,m,rfl,_⟩:=RdT.iff.1 hds
  refine ba hI 2 ai rfl rfl ?_
  refine bf hI 1 rfl ai rfl rfl (by simp [Value.oneCell']) fun w' hI=>?_
  refine bZ hI 1 ai rfl rfl ?_
  exact ⟨_,_,_,rfl,hI.nil,hE,rfl,_,rfl,hds⟩
 ·refine lu (by omega) ?_
  refine a8 (fun _=>?_) (fun hb=>by cases hb)
  obtain ⟨m,rfl⟩:∃ m,j=m+1:=⟨j - 1,by omega⟩
  have hm:m<ts.length:=by omega
  have ej:((m+1:Nat):Int) - 1=(m:Int):=by omega
  rw [ej]
  obtain ⟨b,o,cap,c,E,fz,rfl,hS,hR⟩:=(h.monoT hE.1).at_ hm
  obtain ⟨ka',hca,_,_,_,aa,am,hka',_⟩:=RdT.iff.1 hR
  subst hka'
  obtain ⟨kd,rfl,_,_,_,da,dm,rfl,_⟩:=RdT.iff.1 hds
  obtain ⟨o1,ho1⟩:∃ o1,o1=iw (ts.drop (m+1)) t:=⟨_,rfl⟩
  rw [<- ho1] at hds hI
  obtain ⟨a1,ha1⟩:∃ a1,a1=ts[m]:=⟨_,rfl⟩
  rw [<- ha1] at hR hca
  skip
  refine ⟨fun D cN cJ b0 dI dw dv ef w_=>(D 0=true->ef=.slice (some ⟨b,o,none⟩) ts.length cap)/\(D 1=true->dv=.int .i64 (m:Int))/\(D 2=true->dw=.pointer (some ⟨b,o+m * 4,none⟩))/\(D 3=true->dI=.agg #[.int .i64 a1.kind,.int .i64 a1.n,.string a1.name,.slice aa a1.kids.length am])/\(D 4=true->b0=.agg #[.int .i64 o1.kind,.int .i64 o1.n,.string o1.name,.slice da o1.kids.length dm])/\(D 5=true->True)/\(D 6=true->True)/\(D 7=true->True)/\∃ S2 c6,Ext w.heap.size [] S1 S2/\(D 5=true->RdSl S2 4 (RdT S2) cJ [a1,o1])/\(D 6=true->cN=.agg c6.toArray/\RdT S2 c6 (FX a1 o1))/\(D 7=true->D 6=true)/\(D 6=true->D 5=true)/\(D 5=true->D 4=true)/\Inv w [] [B3,.blk b4 (.cells #[.int .i64 0,.int .i64 0,.string ⟨#[]⟩,.slice none 0 0] ab),.blk b5 (.cells (match D 7 with|true=>c6.toArray|false=>#[.int .i64 o1.kind,.int .i64 o1.n,.string o1.name,.slice da o1.kids.length dm]) ab)] S2 w_,⟨ae,ae,ae,ae,ae,ae,ae,ae,⟨S1,[],Ext.refl _ _ _,ae,ae,ae,ae,ae,hI.draw⟩⟩,⟨?_,?_,?_,?_,?_,?_,?_,?_,trivial⟩,?_⟩
  ·intro D aY  cN cJ b0 dI dw dv ef w_
   rintro ⟨aA,aB,aC,aD,aw,aE,aF,aJ,⟨S2,c6,hE2,e5,e6,k7,k6,k5,hI⟩⟩
   exact ⟨fun _=>rfl,aB,aC,aD,aw,aE,aF,aJ,⟨S2,c6,hE2,e5,e6,k7,k6,k5,hI⟩⟩
  ·intro D aY  cN cJ b0 dI dw dv ef w_
   rintro ⟨aA,aB,aC,aD,aw,aE,aF,aJ,⟨S2,c6,hE2,e5,e6,k7,k6,k5,hI⟩⟩
   exact ⟨aA,fun _=>rfl,aC,aD,aw,aE,aF,aJ,⟨S2,c6,hE2,e5,e6,k7,k6,k5,hI⟩⟩
  ·intro D aY cc ij cN cJ b0 dI dw dv ef w_
   rintro ⟨aA,aB,aC,aD,aw,aE,aF,aJ,⟨S2,c6,hE2,e5,e6,k7,k6,k5,hI⟩⟩
   obtain rfl:=aA cc
   obtain rfl:=aB ij
   refine bi av hm ?_
   exact ⟨aA,aB,fun _=>rfl,aD,aw,aE,aF,aJ,⟨S2,c6,hE2,e5,e6,k7,k6,k5,hI⟩⟩
  ·intro D aY eq cN cJ b0 dI dw dv ef w_
   rintro ⟨aA,aB,aC,aD,aw,aE,aF,aJ,⟨S2,c6,hE2,e5,e6,k7,k6,k5,hI⟩⟩
   obtain rfl:=aC eq
   refine cV (cs:=[.int .i64 a1.kind,.int .i64 a1.n,.string a1.name,.slice aa a1.kids.length am]) ai rfl (fun j v hj=>by rw [hI.cellS (hE2.1 _ _ hS)]; exact bm hca j v hj) ?_
   exact ⟨aA,aB,aC,fun _=>rfl,aw,aE,aF,aJ,⟨S2,c6,hE2,e5,e6,k7,k6,k5,hI⟩⟩
  ·intro D aY  cN cJ b0 dI dw dv ef w_
   rintro ⟨aA,aB,aC,aD,aw,aE,aF,aJ,⟨S2,c6,hE2,e5,e6,k7,k6,k5,hI⟩⟩
   have f5:D 5=false:=Bool.eq_false_iff.2 fun h=>by rw [k5 h] at aY; cases aY
   have f6:D 6=false:=Bool.eq_false_iff.2 fun h=>by rw [k6 h] at f5; cases f5
   have f7:D 7=false:=Bool.eq_false_iff.2 fun h=>by rw [k7 h] at f6; cases f6
   have hI0:=hI
   rw [f7] at hI
   refine ba hI 2 ai rfl rfl ?_
   have hI:=hI0
   have k5:=fun (_:ay D 4 5=true)=>(rfl:ay D 4 4=true)
   exact ⟨aA,aB,aC,aD,fun _=>rfl,aE,aF,aJ,⟨S2,c6,hE2,e5,e6,k7,k6,k5,hI⟩⟩
  ·intro D aY dB dJ cN cJ b0 dI dw dv ef w_
   rintro ⟨aA,aB,aC,aD,aw,aE,aF,aJ,⟨S2,c6,hE2,e5,e6,k7,k6,k5,hI⟩⟩
   obtain rfl:=aD dB
   obtain rfl:=aw dJ
   have f6:D 6=false:=Bool.eq_false_iff.2 fun h=>by rw [k6 h] at aY; cases aY
   have f7:D 7=false:=Bool.eq_false_iff.2 fun h=>by rw [k7 h] at f6; cases f6
   rw [f7] at hI
   refine q4 (v:=fun b=>.slice (some ⟨b,0,none⟩) 2 2) (o:=.cells #[.int .i64 a1.kind,.int .i64 a1.n,.string a1.name,.slice aa a1.kids.length am,.int .i64 o1.kind,.int .i64 o1.n,.string o1.name,.slice da o1.kids.length dm] ab) hI (by kernel_rfl) fun b20 w_ hI=>?_
   obtain ⟨S2,hI,hE3,hS3⟩:=Inv.pub1 (A:=[_,_,_]) hI
   have hE2:=hE2.trans hE3
   have hR':RdT S2 [.int .i64 a1.kind,.int .i64 a1.n,.string a1.name,.slice aa a1.kids.length am] a1:=by
    have:=RdT.mono hE2.1 hR
    rwa [hca] at this
   have e5:=fun (_:ay D 5 5=true)=>Iv hS3 hR' (RdT.mono hE2.1 hds)
   have e6:=fun (h:D 6=true)=>(absurd h (by rw [f6]; decide):cN=.agg c6.toArray/\RdT S2 c6 (FX a1 o1))
   have k6:=fun (_:ay D 5 6=true)=>(rfl:ay D 5 5=true)
   have k5:=fun (_:ay D 5 5=true)=>dJ
   have hI:Inv w [] [B3,.blk b4 (.cells #[.int .i64 0,.int .i64 0,.string ⟨#[]⟩,.slice none 0 0] ab),.blk b5 (.cells (match D 7 with|true=>c6.toArray|false=>#[.int .i64 o1.kind,.int .i64 o1.n,.string o1.name,.slice da o1.kids.length dm]) ab)] S2 w_:=by
    rw [f7]
    exact hI
   exact ⟨aA,aB,aC,aD,aw,fun _=>by first|assumption|trivial,aF,aJ,⟨S2,c6,hE2,e5,e6,k7,k6,k5,hI⟩⟩
  ·intro D aY d3 cN cJ b0 dI dw dv ef w_
   rintro ⟨aA,aB,aC,aD,aw,aE,aF,aJ,⟨S2,c6,hE2,e5,e6,k7,k6,k5,hI⟩⟩
   have NA:=aE d3
   have f7:D 7=false:=Bool.eq_false_iff.2 fun h=>by rw [k7 h] at aY; cases aY
   rw [f7] at hI
   refine Run.call0E dN dL hI (eo ⟨#[46]⟩ (by decide +kernel) (e5 d3) (by simp)) fun v' I' S2 w_=>?_
   rintro ⟨rfl,c6,rfl,hc6⟩ hE3 hI
   have hE2:=hE2.trans hE3
   have e5:=fun (h:D 5=true)=>(e5 h).monoT hE3.1
   have e6:ay D 6 6=true->Value.agg c6.toArray=Value.agg c6.toArray/\RdT S2 c6 (FX a1 o1):=fun _=>⟨rfl,hc6⟩
   have k7:=fun (_:ay D 6 7=true)=>(rfl:ay D 6 6=true)
   have k6:=fun (_:ay D 6 6=true)=>d3
   have hI:Inv w [] [B3,.blk b4 (.cells #[.int .i64 0,.int .i64 0,.string ⟨#[]⟩,.slice none 0 0] ab),.blk b5 (.cells (match D 7 with|true=>c6.toArray|false=>#[.int .i64 o1.kind,.int .i64 o1.n,.string o1.name,.slice da o1.kids.length dm]) ab)] S2 w_:=by
    rw [f7]
    exact hI
   exact ⟨aA,aB,aC,aD,aw,aE,fun _=>by first|assumption|trivial,aJ,⟨S2,c6,hE2,e5,e6,k7,k6,k5,hI⟩⟩
  ·intro D aY c4 ge oI sL ui rQ tD x3 xE cN cJ b0 dI dw dv ef w_
   rintro ⟨aA,aB,aC,aD,aw,aE,aF,aJ,⟨S2,c6,hE2,e5,e6,k7,k6,k5,hI⟩⟩
   have M5:=aF c4
   obtain ⟨q6,hc6⟩:=e6 c4
   subst q6
   rw [aY] at hI
   have hone:=hc6.one
   have hlen:=hc6.length
   refine bf hI 2 rfl ai (by simpa using hlen) rfl (by simpa using hone) fun w_ hI=>?_
   have k7:=fun (_:ay D 7 7=true)=>c4
   exact ⟨aA,aB,aC,aD,aw,aE,aF,fun _=>trivial,⟨S2,c6,hE2,e5,e6,k7,k6,k5,hI⟩⟩
  intro D fT fY fE fm fw fF fC fD cN cJ b0 dI dw dv ef w_
  rintro ⟨aA,aB,aC,aD,aw,aE,aF,aJ,⟨S2,c6,hE2,e5,e6,k7,k6,k5,hI⟩⟩
  have M5:=aF fY
  have NA:=aE fE
  obtain rfl:=aw fm
  obtain rfl:=aD fw
  obtain rfl:=aC fF
  obtain rfl:=aB fC
  obtain rfl:=aA fD
  clear aA aB aC aD aw aE aF aJ
  rw [fT] at hI
  obtain ⟨_,hc6⟩:=e6 fY
  refine qz (by omega) ?_
  refine ⟨⟨m,S2,c6,by omega,rfl,hE.trans hE2,?_,hI⟩,by simp [intOf]⟩
  rw [IY hm,<- ha1,<- ho1]
  exact hc6
end
def nQ (f:Nat):Prop:=∀ (s:Bs) (i d l:Nat) (t:T) (n:Nat) (S:az),iP f s i d l=some (t,n)->s.length<=100000->i<=s.length->d<=100->l<=3->
 Tri Tryz.prog HH [.string (st s),.int .i64 (i:Int),.int .i64 (d:Int),.int .i64 (l:Int)] [] S (Lq t n)
def Dz (f:Nat):Prop:=∀ (s:Bs) (i d:Nat) (t:T) (n:Nat) (S:az),rv f s i d=some (t,n)->s.length<=100000->i<=s.length->d<=100->
 Tri Tryz.prog G9 [.string (st s),.int .i64 (i:Int),.int .i64 (d:Int)] [] S (Lq t n)
def tH (f:Nat):Prop:=∀ (s:Bs) (i d e o:Nat) (ts:List T) (n:Nat) (S:az),gU f s i d e o []=some (ts,n)->s.length<=100000->i<=s.length->d<=100->
 Tri Tryz.prog FN [.string (st s),.int .i64 (i:Int),.int .i64 (d:Int),.int .u8 (e:Int),.int .u8 (o:Int)] [] S (Ng ts n)
theorem Do:∀ (f:Nat) (s:Bs) (i d e o:Nat) (acc ts:List T) (n:Nat),gU f s i d e o acc=some (ts,n)->ts.length+i<=acc.length+n
 | 0,s,i,d,e,o,acc,ts,n,h=>by simp [gU] at h
 | f+1,s,i,d,e,o,acc,ts,n,h=>by
  rw [gU] at h
  split at h
  ·cases h
  ·rename_i t' n' hr
   have a:=(gL f).1 _ _ _ _ _ _ hr
   split at h
   ·simp only [Option.some.injEq,Prod.mk.injEq] at h
    obtain ⟨rfl,rfl⟩:=h
    rw [List.length_append]
    simp only [List.length_cons,List.length_nil]
    omega
   ·split at h
    ·have b:=Do f _ _ _ _ _ _ _ _ h
     rw [List.length_append] at b
     simp only [List.length_cons,List.length_nil] at b
     omega
    ·cases h
section
attribute [local irreducible] Run CondV aj bd
theorem Lp {f:Nat} (ih:∀ g,g<f->nQ g):tH f:=by
 intro s i d e o ts n S h hs hi hd w hI
 refine yg ?_
 unfold ug
 refine eB hI bD fun v0 w' hI=>?_
 refine ⟨fun a b w'=>∃ (f' i':Nat) (acc:List T) (S1:az) (css:List (List Value)),f'<=f/\a=.int .i64 (i':Int)/\i<=i'/\i'<=s.length/\acc.length+i<=i'/\gU f' s i' d e o acc=some (ts,n)/\Ext w.heap.size [] S S1/\Rows 4 (RdT S1) css acc/\Inv w [] [bj b ab 4 css] S1 w',
  fun a _ _=>s.length+1 - (intOf a).toNat,⟨f,i,[],S,[],Nat.le_refl _,rfl,Nat.le_refl _,hi,by simp,h,Ext.refl _ _ _,Rows.nil _ _,hI⟩,?_⟩
 intro t1 _ _ _ _ _ _ _ _ _ _ _ _ _ _ _ _ _ _ _ _ t12 _ _ _ _ _ _ _ _ _ _ _ _ _ _ _ _ _ _ w'
 rintro ⟨f',i',acc,S1,css,hf',rfl,hi1,hi2,hacc,hT,hE,hR,hI⟩
 have hcl:=hR.hc
 cases f' with
 | zero=>simp [gU] at hT
 | succ g=>
 rw [gU] at hT
 split at hT
 ·cases hT
 rename_i t n' hr
 have hle:=(gL g).1 _ _ _ _ _ _ hr
 refine Run.call0E gq gi hI (ih g (by omega) s i' d 3 t n' S1 hr hs hi2 hd (by omega)) fun v I' S2 w'=>?_
 rintro ⟨rfl,cs,rfl,hcs⟩ hE2 hI
 have hR2:=hR.monoR fun _ _ h=>RdT.mono hE2.1 h
 obtain ⟨kv,rfl,_,_,_,a,m,rfl,_⟩:=RdT.iff.1 hcs
 refine bb (v:=.agg _) rfl ?_
 refine bb (v:=.int .i64 (n':Int)) rfl ?_
 refine bw hI bG fun b13 w' hI=>?_
 refine bf hI 1 rfl ai rfl rfl (by simp [Value.oneCell']) fun w' hI=>?_
 refine eD (by omega) ?_
 refine a8 (fun hb=>by cases hb) (fun _=>?_)
 refine ba hI 1 ai rfl rfl ?_
 refine fX (css:=css) hI 0 _ bD (by omega) (by omega) rfl hcs.length hcs.one (by omega) (by omega) fun v' w' hI=>?_
 have hI:Inv w [] [bj v' ab 4 (css++[[.int .i64 t.kind,.int .i64 t.n,.string t.name,.slice a t.kids.length m]])] S2 w':=hI.pick [true,false]
 have hR3:=hR2.snoc hcs hcs.length
 refine ⟨fun b w'=>b=.bool (sgn s n' e || sgn s n' o)/\Inv w [] [bj v' ab 4 (css++[[.int .i64 t.kind,.int .i64 t.n,.string t.name,.slice a t.kids.length m]])] S2 w',?_,?_⟩
 ·refine Run.callPure cU cT hI (cB s n' e S2) fun w' hI=>?_
  cases he:sgn s n' e
  ·repeat (first|refine ad ?_|refine af (by decide) ?_|refine ac ?_|refine ah ?_|refine ag ?_)
   refine Run.callPure cU cT hI (cB s n' o S2) fun w' hI=>?_
   repeat (first|refine ad ?_|refine af (by decide) ?_|refine ac ?_|refine ah ?_|refine ag ?_)
   exact ⟨by simp,hI⟩
  ·repeat (first|refine ad ?_|refine af (by decide) ?_|refine ac ?_|refine ah ?_|refine ag ?_)
   exact ⟨by simp,hI⟩
 intro t39 _ _ _ _ _ _ _ _ _ w'
 rintro ⟨rfl,hI⟩
 refine a8 (fun hb=>?_) (fun hb=>?_)
 ·rw [Bool.or_eq_true] at hb
  rw [if_pos hb] at hT
  simp only [Option.some.injEq,Prod.mk.injEq] at hT
  obtain ⟨rfl,rfl⟩:=hT
  obtain ⟨S3,hE3,hrd,hI⟩:=Inv.lendExt (A:=[]) hI
  have hrs:=RowRd.rows (hR3.monoR fun _ _ h=>RdT.mono hE3.1 h) hrd
  exact ⟨_,[],S3,rfl,hI,(hE.trans hE2).trans hE3,rfl,_,rfl,hrs⟩
 ·have hb':¬ (sgn s n' e=true ∨ sgn s n' o=true):=fun h=>by rw [<- Bool.or_eq_true,hb] at h; cases h
  rw [if_neg hb'] at hT
  split at hT
  ·rename_i h44
   refine Run.callPure cU cT hI (cB s n' 44 S2) fun w' hI=>?_
   refine cF ?_
   rw [h44]
   refine a8 (fun hb=>by cases hb) (fun _=>?_)
   have:=gf h44
   refine ev (a:=n') (b:=1) rfl rfl (by omega) ?_
   refine ⟨⟨g,n'+1,acc++[t],S2,css++[[.int .i64 t.kind,.int .i64 t.n,.string t.name,.slice a t.kids.length m]],by omega,rfl,by omega,by omega,?_,hT,hE.trans hE2,hR3,hI⟩,?_⟩
   ·rw [List.length_append]; simp only [List.length_cons,List.length_nil]; omega
   ·simp only [intOf,Int.toNat_natCast]; omega
  ·cases hT
theorem Hn {g:Nat} (hT:tH g) (hR:nQ g) {s:Bs} {i d:Nat} {ts:List T} {n:Nat} {t:T} {e:Nat} (h1:gU g s i d 93 124 []=some (ts,n))
  (h2:(sgn s n 93=true/\t=iw ts Nl/\e=n+1) ∨ (sgn s n 93=false/\∃ u m,iP g s (n+1) d 3=some (u,m)/\sgn s m 93=true/\t=iw ts u/\e=m+1))
  (hs:s.length<=100000) (hi:i<=s.length) (hd:d<=100) (S:az):Tri Tryz.prog Hk [.string (st s),.int .i64 (i:Int),.int .i64 (d:Int)] [] S (Lq t e):=by
 intro w hI
 have hle:=(gL g).2.2.2 _ _ _ _ _ _ _ _ h1
 have hln:=Do _ _ _ _ _ _ _ _ _ h1
 simp only [List.length_nil] at hln
 refine xn ?_
 unfold tI
 refine bw hI bG fun b6 w' hI=>?_
 refine Run.call0E tu tt hI (hT s i d 93 124 ts n S h1 hs hi hd) fun v I' S1 w'=>?_
 rintro ⟨rfl,u,rfl,hu⟩ hE1 hI
 have hI:Inv w [] [.blk b6 (.cells #[.int .i64 0,.int .i64 0,.string ⟨#[]⟩,.slice none 0 0] ab)] S1 w':=hI
 refine bb (v:=u) rfl ?_
 refine bb (v:=.int .i64 (n:Int)) rfl ?_
 refine eD (by omega) ?_
 refine a8 (fun hb=>by cases hb) (fun _=>?_)
 refine Run.callPure cU cT hI (cB s n 93 S1) fun w' hI=>?_
 rcases h2 with ⟨h3,rfl,rfl⟩|⟨h3,x,m,h4,h5,rfl,rfl⟩
 ·rw [h3]
  refine a8 (fun _=>?_) (fun hb=>by cases hb)
  refine Run.call0E dN dL hI (eo ⟨#[91,93]⟩ (by decide +kernel) (iM S1) (by simp)) fun v I' S2 w'=>?_
  rintro ⟨rfl,cs,rfl,hcs⟩ hE2 hI
  refine Run.call0E rW sj hI (qo (hu.monoT hE2.1) hcs (by omega)) fun v I' S3 w'=>?_
  rintro ⟨rfl,ds,rfl,hds⟩ hE3 hI
  refine ev (a:=n) (b:=1) rfl rfl (by omega) ?_
  obtain ⟨kv,rfl,_,_,_,a,k,rfl,_⟩:=RdT.iff.1 hds
  refine bf hI 0 rfl ai rfl rfl (by simp [Value.oneCell']) fun w' hI=>?_
  refine bZ hI 0 ai rfl rfl ?_
  exact ⟨_,[],S3,rfl,hI.nil,(hE1.trans hE2).trans hE3,rfl,_,rfl,hds⟩
 ·rw [h3]
  refine a8 (fun hb=>by cases hb) (fun _=>?_)
  refine ev (a:=n) (b:=1) rfl rfl (by omega) ?_
  have hle2:=(gL g).1 _ _ _ _ _ _ h4
  refine Run.call0E gq gi hI (hR s (n+1) d 3 x m S1 h4 hs (by omega) hd (by omega)) fun v I' S2 w'=>?_
  rintro ⟨rfl,cs,rfl,hcs⟩ hE2 hI
  obtain ⟨kv,rfl,_,_,_,a,k,rfl,_⟩:=RdT.iff.1 hcs
  refine bb (v:=.agg _) rfl ?_
  refine bb (v:=.int .i64 (m:Int)) rfl ?_
  refine bw hI bG fun b10 w' hI=>?_
  refine bf hI 1 rfl ai rfl rfl (by simp [Value.oneCell']) fun w' hI=>?_
  refine eD (by omega) ?_
  refine a8 (fun hb=>by cases hb) (fun _=>?_)
  refine Run.callPure cU cT hI (cB s m 93 S2) fun w' hI=>?_
  refine cF ?_
  rw [h5]
  refine a8 (fun hb=>by cases hb) (fun _=>?_)
  refine ba hI 1 ai rfl rfl ?_
  refine Run.call0E rW sj hI (qo (hu.monoT hE2.1) hcs (by omega)) fun v I' S3 w'=>?_
  rintro ⟨rfl,ds,rfl,hds⟩ hE3 hI
  refine ev (a:=m) (b:=1) rfl rfl (by omega) ?_
  obtain ⟨kv,rfl,_,_,_,a,k,rfl,_⟩:=RdT.iff.1 hds
  refine bf hI 0 rfl ai rfl rfl (by simp [Value.oneCell']) fun w' hI=>?_
  refine bZ hI 0 ai rfl rfl ?_
  exact ⟨_,[],S3,rfl,hI.nil,(hE1.trans hE2).trans hE3,rfl,_,rfl,hds⟩
theorem ur {n:Bs} (h:n.length<=6):(st n).size<=maxLen:=by rw [lh]; simp only [maxLen]; omega
theorem Mu {f:Nat} (ihR:∀ g,g<f->nQ g) (ihT:∀ g,g<f->tH g):Dz f:=by
 intro s i d t n S h hs hi hd w hI
 cases f with
 | zero=>simp [rv] at h
 | succ g=>
 have hR:=ihR g (by omega)
 have hT:=ihT g (by omega)
 have hle:=(gL (g+1)).2.2.1 _ _ _ _ _ h
 rw [rv] at h
 split at h
 ·cases h
 rename_i h0
 have hd0:1<=d:=by omega
 have hlt:i<s.length:=by omega
 refine xY ?_
 unfold sD
 refine bw hI bG fun b6 w' hI=>?_
 have hI:Inv w [] [.blk b6 (.cells #[.int .i64 0,.int .i64 0,.string ⟨#[]⟩,.slice none 0 0] ab)] S w':=hI
 refine ⟨fun b w'=>b=.bool false/\Inv w [] [.blk b6 (.cells #[.int .i64 0,.int .i64 0,.string ⟨#[]⟩,.slice none 0 0] ab)] S w',?_,?_⟩
 ·refine eD (by omega) ?_
  repeat (first|refine ad ?_|refine af (by decide) ?_|refine ac ?_|refine ah ?_|refine ag ?_)
  refine fA bg ?_
  refine pa (by omega) ?_
  repeat (first|refine ad ?_|refine af (by decide) ?_|refine ac ?_|refine ah ?_|refine ag ?_)
  exact ⟨rfl,hI⟩
 intro t23 _ _ _ _ _ _ _ w'
 rintro ⟨rfl,hI⟩
 refine a8 (fun hb=>by cases hb) (fun _=>?_)
 refine ec bg hlt ?_
 split at h
 ·rename_i h40
  rw [g5 hlt,decide_eq_true_eq] at h40
  refine fM (by omega) ?_
  refine a8 (fun _=>?_) (fun hb=>by cases hb)
  split at h
  ·cases h
  rename_i u m hr
  split at h
  ·rename_i h41
   simp only [Option.some.injEq,Prod.mk.injEq] at h
   obtain ⟨rfl,rfl⟩:=h
   have hle2:=(gL g).1 _ _ _ _ _ _ hr
   refine ev (a:=i) (b:=1) rfl rfl (by omega) ?_
   refine Run.call0E gq gi hI (hR s (i+1) d 3 u m S hr hs (by omega) hd (by omega)) fun v I' S2 w'=>?_
   rintro ⟨rfl,cs,rfl,hcs⟩ hE2 hI
   obtain ⟨kv,rfl,_,_,_,a,k,rfl,_⟩:=RdT.iff.1 hcs
   refine bb (v:=.agg _) rfl ?_
   refine bb (v:=.int .i64 (m:Int)) rfl ?_
   refine bw hI bG fun b8 w' hI=>?_
   refine bf hI 1 rfl ai rfl rfl (by simp [Value.oneCell']) fun w' hI=>?_
   refine eD (by omega) ?_
   refine a8 (fun hb=>by cases hb) (fun _=>?_)
   refine Run.callPure cU cT hI (cB s m 41 S2) fun w' hI=>?_
   refine cF ?_
   rw [h41]
   refine a8 (fun hb=>by cases hb) (fun _=>?_)
   refine ba hI 1 ai rfl rfl ?_
   refine ev (a:=m) (b:=1) rfl rfl (by omega) ?_
   refine bf hI 0 rfl ai rfl rfl (by simp [Value.oneCell']) fun w' hI=>?_
   refine bZ hI 0 ai rfl rfl ?_
   exact ⟨_,[],S2,rfl,hI.nil,hE2,rfl,_,rfl,hcs⟩
  ·cases h
 rename_i h40
 rw [g5 hlt,decide_eq_true_eq] at h40
 refine er (by omega) ?_
 refine a8 (fun hb=>by cases hb) (fun _=>?_)
 refine ⟨fun b w'=>b=.bool (sgn s i 91 && !sgn s (i+1) 93)/\Inv w [] [.blk b6 (.cells #[.int .i64 0,.int .i64 0,.string ⟨#[]⟩,.slice none 0 0] ab)] S w',?_,?_⟩
 ·refine ec bg hlt ?_
  by_cases h91:s[i].toNat=91
  ·refine fM (by omega) ?_
   repeat (first|refine ad ?_|refine af (by decide) ?_|refine ac ?_|refine ah ?_|refine ag ?_)
   refine ev (a:=i) (b:=1) rfl rfl (by omega) ?_
   refine Run.callPure cU cT hI (cB s (i+1) 93 S) fun w' hI=>?_
   refine cF ?_
   repeat (first|refine ad ?_|refine af (by decide) ?_|refine ac ?_|refine ah ?_|refine ag ?_)
   exact ⟨by rw [g5 hlt,decide_eq_true h91,Bool.true_and],hI⟩
  ·refine er (by omega) ?_
   repeat (first|refine ad ?_|refine af (by decide) ?_|refine ac ?_|refine ah ?_|refine ag ?_)
   exact ⟨by rw [g5 hlt,decide_eq_false h91,Bool.false_and],hI⟩
 intro t65 _ _ _ _ _ _ _ _ _ _ w'
 rintro ⟨rfl,hI⟩
 split at h
 ·rename_i h91
  rw [h91.1,h91.2]
  refine a8 (fun _=>?_) (fun hb=>by cases hb)
  split at h
  ·cases h
  rename_i ts m hts
  have h2:(sgn s m 93=true/\t=iw ts Nl/\n=m+1) ∨ (sgn s m 93=false/\∃ u k,iP g s (m+1) (d - 1) 3=some (u,k)/\sgn s k 93=true/\t=iw ts u/\n=k+1):=by
   split at h
   ·rename_i h3
    simp only [Option.some.injEq,Prod.mk.injEq] at h
    exact .inl ⟨h3,h.1.symm,h.2.symm⟩
   ·rename_i h3
    split at h
    ·cases h
    rename_i u k hr
    split at h
    ·rename_i h4
     simp only [Option.some.injEq,Prod.mk.injEq] at h
     exact .inr ⟨Bool.eq_false_iff.2 h3,u,k,hr,h4,h.1.symm,h.2.symm⟩
    ·cases h
  refine ev (a:=i) (b:=1) rfl rfl (by omega) ?_
  refine uG (a:=d) (b:=1) rfl rfl hd0 (by omega) ?_
  refine Run.call0E D6 D2 hI (Hn hT hR hts h2 hs (by omega) (by omega) S) fun v I' S2 w'=>?_
  rintro ⟨rfl,cs,rfl,hcs⟩ hE2 hI
  obtain ⟨kv,rfl,_,_,_,a,k,rfl,_⟩:=RdT.iff.1 hcs
  refine bb (v:=.agg _) rfl ?_
  refine bb (v:=.int .i64 (n:Int)) rfl ?_
  refine bf hI 0 rfl ai rfl rfl (by simp [Value.oneCell']) fun w' hI=>?_
  refine bZ hI 0 ai rfl rfl ?_
  exact ⟨_,[],S2,rfl,hI.nil,hE2,rfl,_,rfl,hcs⟩
 rename_i h91
 have e91:(sgn s i 91 && !sgn s (i+1) 93)=false:=by
  cases h5:sgn s i 91
  ·rfl
  ·cases h6:sgn s (i+1) 93
   ·exact absurd ⟨h5,h6⟩ h91
   ·rfl
 rw [e91]
 refine a8 (fun hb=>by cases hb) (fun _=>?_)
 refine ⟨fun b w'=>b=.bool (upp s i)/\Inv w [] [.blk b6 (.cells #[.int .i64 0,.int .i64 0,.string ⟨#[]⟩,.slice none 0 0] ab)] S w',?_,?_⟩
 ·refine ec bg hlt ?_
  by_cases h65:65<=s[i].toNat
  ·refine lu (by omega) ?_
   repeat (first|refine ad ?_|refine af (by decide) ?_|refine ac ?_|refine ah ?_|refine ag ?_)
   refine ec bg hlt ?_
   refine fK ?_
   repeat (first|refine ad ?_|refine af (by decide) ?_|refine ac ?_|refine ah ?_|refine ag ?_)
   refine ⟨?_,hI⟩
   rw [upp,jd hlt,decide_eq_true h65,Bool.true_and]
   congr 1
   rw [decide_eq_decide]
   omega
  ·refine pa (by omega) ?_
   repeat (first|refine ad ?_|refine af (by decide) ?_|refine ac ?_|refine ah ?_|refine ag ?_)
   exact ⟨by rw [upp,jd hlt,decide_eq_false h65,Bool.false_and],hI⟩
 intro t83 _ _ _ _ _ _ _ _ _ w'
 rintro ⟨rfl,hI⟩
 split at h
 ·rename_i hup
  simp only [Option.some.injEq,Prod.mk.injEq] at h
  obtain ⟨rfl,rfl⟩:=h
  rw [hup]
  rw [upp,jd hlt,Bool.and_eq_true,decide_eq_true_eq,decide_eq_true_eq] at hup
  refine a8 (fun _=>?_) (fun hb=>by cases hb)
  refine ec bg hlt ?_
  refine HO (c:=(s[i].toNat:Int) - 65) (IntWalk.u8_in _ (by omega)) ?_
  refine mx fQ jc (IntWalk.i64_in _ (by omega)) ?_
  refine Run.callPure ri qV hI (lC _ S) fun w' hI=>?_
  refine ev (a:=i) (b:=1) rfl rfl (by omega) ?_
  refine bf hI 0 rfl ai rfl rfl (by simp [Value.oneCell']) fun w' hI=>?_
  refine bZ hI 0 ai rfl rfl ?_
  have eg:((s.getD i 0).toNat:Int) - 65=(s[i].toNat:Int) - 65:=by rw [List.getD_eq_getElem?_getD,List.getElem?_eq_getElem hlt]; rfl
  rw [eg]
  exact ⟨_,[],S,rfl,hI.nil,Ext.refl _ _ _,rfl,_,rfl,RdT.nil (by simp [inI]) (by unfold inI; omega) (by decide +kernel) (Nat.zero_le _)⟩
 rename_i hup
 rw [Bool.eq_false_iff.2 hup]
 refine a8 (fun hb=>by cases hb) (fun _=>?_)
 refine ⟨fun b w'=>b=.bool (dig s i || (sgn s i 45 && dig s (i+1)))/\Inv w [] [.blk b6 (.cells #[.int .i64 0,.int .i64 0,.string ⟨#[]⟩,.slice none 0 0] ab)] S w',?_,?_⟩
 ·refine Run.callPure gw gv hI (eY s i S) fun w' hI=>?_
  cases hdi:dig s i
  ·repeat (first|refine ad ?_|refine af (by decide) ?_|refine ac ?_|refine ah ?_|refine ag ?_)
   refine ec bg hlt ?_
   by_cases h45:s[i].toNat=45
   ·refine fM (by omega) ?_
    repeat (first|refine ad ?_|refine af (by decide) ?_|refine ac ?_|refine ah ?_|refine ag ?_)
    refine ev (a:=i) (b:=1) rfl rfl (by omega) ?_
    refine Run.callPure gw gv hI (eY s (i+1) S) fun w' hI=>?_
    repeat (first|refine ad ?_|refine af (by decide) ?_|refine ac ?_|refine ah ?_|refine ag ?_)
    exact ⟨by rw [g5 hlt,decide_eq_true h45,Bool.true_and,Bool.false_or],hI⟩
   ·refine er (by omega) ?_
    repeat (first|refine ad ?_|refine af (by decide) ?_|refine ac ?_|refine ah ?_|refine ag ?_)
    exact ⟨by rw [g5 hlt,decide_eq_false h45,Bool.false_and,Bool.false_or],hI⟩
  ·repeat (first|refine ad ?_|refine af (by decide) ?_|refine ac ?_|refine ah ?_|refine ag ?_)
   exact ⟨by rw [Bool.true_or],hI⟩
 intro t106 _ _ _ _ _ _ _ _ _ _ _ _ _ _ w'
 rintro ⟨rfl,hI⟩
 split at h
 ·rename_i hdg
  have:(dig s i || (sgn s i 45 && dig s (i+1)))=true:=by rw [Bool.or_eq_true,Bool.and_eq_true]; exact hdg
  rw [this]
  refine a8 (fun _=>?_) (fun hb=>by cases hb)
  obtain ⟨k,hk,rfl,_,_,hnum⟩:=AY h (by omega) S
  refine Run.callPure Ct B6 hI hnum fun w' hI=>?_
  refine bb (v:=CA 2 k) rfl ?_
  refine bb (v:=.int .i64 (n:Int)) rfl ?_
  refine bw hI bG fun b10 w' hI=>?_
  refine bf hI 1 rfl ai rfl rfl (by simp [Value.oneCell']) fun w' hI=>?_
  refine eD (by omega) ?_
  refine a8 (fun hb=>by cases hb) (fun _=>?_)
  refine ba hI 1 ai rfl rfl ?_
  refine bf hI 0 rfl ai rfl rfl (by simp [Value.oneCell']) fun w' hI=>?_
  refine bZ hI 0 ai rfl rfl ?_
  exact ⟨_,[],S,rfl,hI.nil,Ext.refl _ _ _,rfl,_,rfl,RdT.nil (by simp [inI]) hk (by decide +kernel) (Nat.zero_le _)⟩
 rename_i hdg
 have:(dig s i || (sgn s i 45 && dig s (i+1)))=false:=by
  rw [Bool.eq_false_iff,ne_eq,Bool.or_eq_true,Bool.and_eq_true]; exact hdg
 rw [this]
 refine a8 (fun hb=>by cases hb) (fun _=>?_)
 refine Run.callPure pq nR hI (mz hlt hs S) fun w' hI=>?_
 cases hnm:nj s i with
 | none=>rw [hnm] at h; cases h
 | some q=>
 obtain ⟨name,m⟩:=q
 rw [hnm] at h
 simp only [] at h
 simp only [GK]
 have hnl:=lW hlt hnm
 refine bb (v:=.string (st name)) rfl ?_
 refine bb (v:=.int .i64 (m:Int)) rfl ?_
 refine eD (by omega) ?_
 refine a8 (fun hb=>by cases hb) (fun _=>?_)
 refine Run.callPure cU cT hI (cB s m 40 S) fun w' hI=>?_
 refine cF ?_
 split at h
 ·rename_i h40'
  simp only [Option.some.injEq,Prod.mk.injEq] at h
  obtain ⟨rfl,rfl⟩:=h
  rw [h40']
  refine a8 (fun _=>?_) (fun hb=>by cases hb)
  refine Run.call0E dN dL hI (eo (st name) (ur hnl.2.2.1) (iM S) (by simp)) fun v I' S2 w'=>?_
  rintro ⟨rfl,cs,rfl,hcs⟩ hE2 hI
  obtain ⟨kv,rfl,_,_,_,a,k,rfl,_⟩:=RdT.iff.1 hcs
  refine bf hI 0 rfl ai rfl rfl (by simp [Value.oneCell']) fun w' hI=>?_
  refine bZ hI 0 ai rfl rfl ?_
  exact ⟨_,[],S2,rfl,hI.nil,hE2,rfl,_,rfl,hcs⟩
 ·rename_i h40'
  rw [Bool.not_eq_false] at h40'
  rw [h40']
  refine a8 (fun hb=>by cases hb) (fun _=>?_)
  split at h
  ·cases h
  rename_i ts k hts
  simp only [Option.some.injEq,Prod.mk.injEq] at h
  obtain ⟨rfl,rfl⟩:=h
  have hm:=gf h40'
  have hle2:=(gL g).2.2.2 _ _ _ _ _ _ _ _ hts
  refine ev (a:=m) (b:=1) rfl rfl (by omega) ?_
  refine uG (a:=d) (b:=1) rfl rfl hd0 (by omega) ?_
  refine Run.call0E tu tt hI (hT s (m+1) (d - 1) 41 41 ts k S hts hs (by omega) (by omega)) fun v I' S2 w'=>?_
  rintro ⟨rfl,u,rfl,hu⟩ hE2 hI
  refine bb (v:=u) rfl ?_
  refine bb (v:=.int .i64 (k:Int)) rfl ?_
  refine eD (by omega) ?_
  refine a8 (fun hb=>by cases hb) (fun _=>?_)
  obtain ⟨a,c,rfl,_⟩:=id hu
  refine lH ⟨_,_,_,rfl⟩ ?_
  refine ev (a:=k) (b:=1) rfl rfl (by omega) ?_
  refine bf hI 0 rfl ai rfl rfl (by simp [Value.oneCell']) fun w' hI=>?_
  refine bZ hI 0 ai rfl rfl ?_
  exact ⟨_,[],S2,rfl,hI.nil,hE2,rfl,_,rfl,RdT.iff.2 ⟨_,rfl,by simp [inI,T.kind,xL],by simp [inI,T.n,xL],ur hnl.2.2.1,hu⟩⟩
theorem MY {f:Nat} (ihR:∀ g,g<f->nQ g) (ihP:∀ g,g<f->Dz g):nQ f:=by
 intro s i d l t n S h hs hi hd hl w hI
 cases f with
 | zero=>simp [iP] at h
 | succ f=>
 refine y9 ?_
 unfold vY
 refine bw hI bG fun b8 w' hI=>?_
 have hI:Inv w [] [.blk b8 (.cells #[.int .i64 0,.int .i64 0,.string ⟨#[]⟩,.slice none 0 0] ab)] S w':=hI
 cases l with
 | zero=>
  rw [iP] at h
  refine fM rfl ?_
  refine a8 (fun _=>?_) (fun hb=>by cases hb)
  refine Run.call0E Ff Em hI (ihP f (by omega) s i d t n S h hs hi hd) fun v I' S2 w'=>?_
  rintro ⟨rfl,cs,rfl,hcs⟩ hE2 hI
  obtain ⟨kv,rfl,_,_,_,a,k,rfl,_⟩:=RdT.iff.1 hcs
  refine bb (v:=.agg _) rfl ?_
  refine bb (v:=.int .i64 (n:Int)) rfl ?_
  refine bf hI 0 rfl ai rfl rfl (by simp [Value.oneCell']) fun w' hI=>?_
  refine bZ hI 0 ai rfl rfl ?_
  exact ⟨_,[],S2,rfl,hI.nil,hE2,rfl,_,rfl,hcs⟩
 | succ l=>
  rw [iP] at h
  split at h
  ·cases h
  rename_i t0 n0 hr
  have hle:=(gL f).1 _ _ _ _ _ _ hr
  refine er (by omega) ?_
  refine a8 (fun hb=>by cases hb) (fun _=>?_)
  refine uG (a:=l+1) (b:=1) rfl rfl (by omega) (by omega) ?_
  rw [Nat.add_sub_cancel]
  refine Run.call0E gq gi hI (ihR f (by omega) s i d l t0 n0 S hr hs hi hd (by omega)) fun v I' S1 w'=>?_
  rintro ⟨rfl,cs,rfl,hcs⟩ hE1 hI
  obtain ⟨kv,rfl,_,_,_,a,k,rfl,_⟩:=RdT.iff.1 hcs
  refine bb (v:=.agg _) rfl ?_
  refine bb (v:=.int .i64 (n0:Int)) rfl ?_
  refine bw hI bG fun b10 w' hI=>?_
  refine bf hI 1 rfl ai rfl rfl (by simp [Value.oneCell']) fun w' hI=>?_
  refine ⟨fun a w'=>∃ (f' n':Nat) (t':T) (ds:List Value) (S1:az),f'<=f/\a=.int .i64 (n':Int)/\n'<=s.length/\Gy f' s n' d l t'=some (t,n)/\Ext w.heap.size [] S S1/\RdT S1 ds t'/\Inv w [] [.blk b8 (.cells #[.int .i64 0,.int .i64 0,.string ⟨#[]⟩,.slice none 0 0] ab),.blk b10 (.cells ds.toArray ab)] S1 w',
   fun a _=>s.length+1 - (intOf a).toNat,⟨f,n0,t0,_,S1,Nat.le_refl _,rfl,hle.2,h,hE1,hcs,hI⟩,?_⟩
  clear h hE1 hcs hI hr hle
  intro _ _ _ _ t11 _ _ _ _ _ _ _ _ _ _ _ _ _ _ _ _ _ _ _ _ _ _ _ _ _ _ _ _ _ _ _ _ _ _ _ _ _ _ _ _ _ _ w'
  rintro ⟨f',n',t',ds,S1,hf',rfl,hn',ho,hE,hds,hI⟩
  obtain ⟨kd,rfl,_,_,hts',da,dm,rfl,_⟩:=RdT.iff.1 hds
  cases f' with
  | zero=>simp [Gy] at ho
  | succ g=>
  rw [Gy] at ho
  refine lu (by omega) ?_
  refine a8 (fun _=>?_) (fun hb=>by cases hb)
  refine Run.callPure K5 K0 hI (IQ hs hn' S1) fun w' hI=>?_
  cases hop:opF s n' with
  | none=>
   rw [hop] at ho
   simp only [Option.some.injEq,Prod.mk.injEq] at ho
   obtain ⟨rfl,rfl⟩:=ho
   simp only [opV]
   refine bb (v:=.string ⟨#[]⟩) rfl ?_
   refine bb (v:=.int .i64 (n':Int)) rfl ?_
   refine ⟨fun b w'=>b=.bool true/\Inv w [] [.blk b8 (.cells #[.int .i64 0,.int .i64 0,.string ⟨#[]⟩,.slice none 0 0] ab),.blk b10 (.cells #[.int .i64 t'.kind,.int .i64 t'.n,.string t'.name,.slice da t'.kids.length dm] ab)] S1 w',?_,?_⟩
   ·refine cL ?_
    rw [decide_eq_true rfl]
    repeat (first|refine ad ?_|refine af (by decide) ?_|refine ac ?_|refine ah ?_|refine ag ?_)
    exact ⟨rfl,hI⟩
   intro t48 _ _ _ _ _ _ _ w'
   rintro ⟨rfl,hI⟩
   refine a8 (fun _=>?_) (fun hb=>by cases hb)
   refine ba hI 1 ai rfl rfl ?_
   refine bf hI 0 rfl ai rfl rfl (by simp [Value.oneCell']) fun w' hI=>?_
   refine bZ hI 0 ai rfl rfl ?_
   exact ⟨_,[],S1,rfl,hI.nil,hE,rfl,_,rfl,hds⟩
  | some q=>
   obtain ⟨name,after⟩:=q
   rw [hop] at ho
   simp only [] at ho
   simp only [opV]
   have hol:=MC hop
   refine bb (v:=.string (st name)) rfl ?_
   refine bb (v:=.int .i64 (after:Int)) rfl ?_
   refine ⟨fun b w'=>b=.bool (!decide (dj (st name)=((l+1:Nat):Int)))/\Inv w [] [.blk b8 (.cells #[.int .i64 0,.int .i64 0,.string ⟨#[]⟩,.slice none 0 0] ab),.blk b10 (.cells #[.int .i64 t'.kind,.int .i64 t'.n,.string t'.name,.slice da t'.kids.length dm] ab)] S1 w',?_,?_⟩
   ·refine zE (b:=[]) ?_
    rw [decide_eq_false hol.2.2.2]
    repeat (first|refine ad ?_|refine af (by decide) ?_|refine ac ?_|refine ah ?_|refine ag ?_)
    refine Run.callPure fO fL hI (ey _ S1) fun w' hI=>?_
    refine gn ?_
    repeat (first|refine ad ?_|refine af (by decide) ?_|refine ac ?_|refine ah ?_|refine ag ?_)
    exact ⟨rfl,hI⟩
   intro t48 _ _ _ _ _ _ _ w'
   rintro ⟨rfl,hI⟩
   split at ho
   ·rename_i hlv
    rw [decide_eq_true hlv]
    refine a8 (fun hb=>by cases hb) (fun _=>?_)
    split at ho
    ·cases ho
    rename_i r e hr
    have hle:=(gL g).1 _ _ _ _ _ _ hr
    refine uG (a:=l+1) (b:=1) rfl rfl (by omega) (by omega) ?_
    rw [Nat.add_sub_cancel]
    refine Run.call0E gq gi hI (ihR g (by omega) s after d l r e S1 hr hs (by omega) hd (by omega)) fun v I' S2 w'=>?_
    rintro ⟨rfl,es,rfl,hes⟩ hE2 hI
    obtain ⟨ke,rfl,_,_,_,ea,em,rfl,_⟩:=RdT.iff.1 hes
    refine bb (v:=.agg _) rfl ?_
    refine bb (v:=.int .i64 (e:Int)) rfl ?_
    refine bw hI bG fun b14 w' hI=>?_
    refine bf hI 2 rfl ai rfl rfl (by simp [Value.oneCell']) fun w' hI=>?_
    refine eD (by omega) ?_
    refine a8 (fun hb=>by cases hb) (fun _=>?_)
    refine ba hI 1 ai rfl rfl ?_
    refine ba hI 2 ai rfl rfl ?_
    refine q4 (v:=fun b=>.slice (some ⟨b,0,none⟩) 2 2) (o:=.cells #[.int .i64 t'.kind,.int .i64 t'.n,.string t'.name,.slice da t'.kids.length dm,.int .i64 r.kind,.int .i64 r.n,.string r.name,.slice ea r.kids.length em] ab) hI (by kernel_rfl) fun b20 w' hI=>?_
    obtain ⟨S3,hI,hE3,hS3⟩:=Inv.pub1 (A:=[_,_,_]) hI
    have hks:=Iv hS3 (RdT.mono (hE2.1.trans hE3.1) hds) (RdT.mono hE3.1 hes)
    refine Run.call0E dN dL hI (eo (st name) (ur hol.2.2.1) hks (by simp)) fun v I' S4 w'=>?_
    rintro ⟨rfl,gs,rfl,hgs⟩ hE4 hI
    obtain ⟨kg,rfl,_,_,_,ga,gm,rfl,_⟩:=RdT.iff.1 hgs
    have hE':=((hE.trans hE2).trans hE3).trans hE4
    refine bf hI 1 rfl ai rfl rfl (by simp [Value.oneCell']) fun w' hI=>?_
    split at ho
    ·rename_i hl2
     subst hl2
     simp only [Option.some.injEq,Prod.mk.injEq] at ho
     obtain ⟨rfl,rfl⟩:=ho
     refine fM rfl ?_
     refine a8 (fun _=>?_) (fun hb=>by cases hb)
     refine ba hI 1 ai rfl rfl ?_
     refine bf hI 0 rfl ai rfl rfl (by simp [Value.oneCell']) fun w' hI=>?_
     refine bZ hI 0 ai rfl rfl ?_
     exact ⟨_,[],S4,rfl,hI.nil,hE',rfl,_,rfl,hgs⟩
    ·refine er (by omega) ?_
     refine a8 (fun hb=>by cases hb) (fun _=>?_)
     refine ⟨⟨g,e,_,_,S4,by omega,rfl,hle.2,ho,hE',hgs,hI.pick [true,true,false]⟩,?_⟩
     simp only [intOf,Int.toNat_natCast]
     omega
   ·rename_i hlv
    rw [decide_eq_false hlv]
    simp only [Option.some.injEq,Prod.mk.injEq] at ho
    obtain ⟨rfl,rfl⟩:=ho
    refine a8 (fun _=>?_) (fun hb=>by cases hb)
    refine ba hI 1 ai rfl rfl ?_
    refine bf hI 0 rfl ai rfl rfl (by simp [Value.oneCell']) fun w' hI=>?_
    refine bZ hI 0 ai rfl rfl ?_
    exact ⟨_,[],S1,rfl,hI.nil,hE,rfl,_,rfl,hds⟩
theorem Lo:∀ F f,f<F->nQ f/\Dz f/\tH f
 | 0,f,h=>by omega
 | F+1,f,h=>by
  have ih:=Lo F
  have hR:nQ f:=MY (fun g hg=>(ih g (by omega)).1) (fun g hg=>(ih g (by omega)).2.1)
  have hT:tH f:=Lp fun g hg=>(ih g (by omega)).1
  exact ⟨hR,Mu (fun g hg=>(ih g (by omega)).1) (fun g hg=>(ih g (by omega)).2.2),hT⟩
theorem CG (f:Nat):nQ f:=(Lo (f+1) f (by omega)).1
end

end Go.Proofs.YtemmhhdnlbmicaaGreat

/- spec.l1Parse and l1Args on texts of one level: variables, names, names with such arguments. -/
namespace Go.Proofs.YtemmhhdnlbmicaaGreat
open Go Go.RowKit
/- what is read at a place, A reading the arguments -/
def Mg (A:Bs->Nat->Option (List T × Nat)) (s:Bs) (i:Nat):Option (T × Nat):=if s.length<=i then none else if upp s i=true then some (.mk 1 ((s.getD i 0).toNat - 65) emptyB [],i+1)
  else if dig s i=true ∨ (sgn s i 45=true/\dig s (i+1)=true) then none else if sgn s i 91=true then none
  else match nj s i with
   | none=>none
   | some (name,n)=>if sgn s n 40=false then some (xL name [],n) else match A s (n+1) with
    | none=>none
    | some (ts,e)=>some (xL name ts,e)
def Jw:Bs->Nat->Option (T × Nat):=Mg fun _ _=>none
def CW:Nat->Bs->Nat->List T->Option (List T × Nat)
 | 0,_,_,_=>none
 | f+1,s,i,acc=>if 4<acc.length then none else match Jw s i with
  | none=>none
  | some (t,n)=>if sgn s n 41=true then some (acc++[t],n+1) else if sgn s n 44=true then CW f s (n+1) (acc++[t]) else none
def LP:Bs->Nat->Option (T × Nat):=Mg fun s i=>CW 6 s i []
theorem Lr {s:Bs} {i:Nat} {t:T} {n:Nat} (h:Jw s i=some (t,n)):i<n/\n<=s.length:=by
 unfold Jw Mg at h
 split at h
 ·cases h
 rename_i hi
 have hlt:i<s.length:=by omega
 split at h
 ·simp only [Option.some.injEq,Prod.mk.injEq] at h
  omega
 split at h
 ·cases h
 split at h
 ·cases h
 cases hnm:nj s i with
 | none=>rw [hnm] at h; cases h
 | some q=>
 obtain ⟨name,m⟩:=q
 rw [hnm] at h
 simp only [] at h
 have hnl:=lW hlt hnm
 split at h
 ·simp only [Option.some.injEq,Prod.mk.injEq] at h
  omega
 ·cases h
section
attribute [local irreducible] Run CondV aj bd
abbrev IC (t:T) (n:Nat):Value->List Item->az->Prop:=fun v I' S'=>I'=[]/\∃ cs,v=.tuple #[.agg cs.toArray,.int .i64 (n:Int)]/\RdT S' cs t
abbrev L5 (ts:List T) (n:Nat):Value->List Item->az->Prop:=fun v I' S'=>I'=[]/\∃ u,v=.tuple #[u,.int .i64 (n:Int)]/\RdSl S' 4 (RdT S') u ts
theorem Ar {A:Bs->Nat->Option (List T × Nat)} {m0:Nat} (hm0:1<=m0) {s:Bs} (hs:s.length<=100000)
  (hA:∀ (i d:Nat) ts e S,A s i=some (ts,e)->i<=s.length->m0<=d->d<=100->Tri Tryz.prog Ae [.string (st s),.int .i64 (i:Int),.int .i64 (d:Int)] [] S (L5 ts e))
  {i d n:Nat} {t:T} {S:az} (h:Mg A s i=some (t,n)) (hd:m0+1<=d) (hd2:d<=100):Tri Tryz.prog ot [.string (st s),.int .i64 (i:Int),.int .i64 (d:Int)] [] S (IC t n):=by
 intro w hI
 unfold Mg at h
 split at h
 ·cases h
 rename_i hi
 have hlt:i<s.length:=by omega
 refine xy ?_
 unfold tL;dsimp only
 refine bw hI bG fun b6 w' hI=>?_
 have hI:Inv w [] [.blk b6 (.cells #[.int .i64 0,.int .i64 0,.string ⟨#[]⟩,.slice none 0 0] ab)] S w':=hI
 refine ⟨fun b w'=>b=.bool false/\Inv w [] [.blk b6 (.cells #[.int .i64 0,.int .i64 0,.string ⟨#[]⟩,.slice none 0 0] ab)] S w',?_,?_⟩
 ·refine eD (by omega) ?_
  repeat (first|refine ad ?_|refine af (by decide) ?_|refine ac ?_|refine ah ?_|refine ag ?_)
  refine eD (by omega) ?_
  repeat (first|refine ad ?_|refine af (by decide) ?_|refine ac ?_|refine ah ?_|refine ag ?_)
  refine fA bg ?_
  refine pa (by omega) ?_
  repeat (first|refine ad ?_|refine af (by decide) ?_|refine ac ?_|refine ah ?_|refine ag ?_)
  exact ⟨rfl,hI⟩
 intro t23 _ _ _ _ _ _ _ _ _ _ _ w'
 rintro ⟨rfl,hI⟩
 refine a8 (fun hb=>by cases hb) (fun _=>?_)
 refine ⟨fun b w'=>b=.bool (upp s i)/\Inv w [] [.blk b6 (.cells #[.int .i64 0,.int .i64 0,.string ⟨#[]⟩,.slice none 0 0] ab)] S w',?_,?_⟩
 ·refine ec bg hlt ?_
  by_cases h65:65<=s[i].toNat
  ·refine lu (by omega) ?_
   repeat (first|refine ad ?_|refine af (by decide) ?_|refine ac ?_|refine ah ?_|refine ag ?_)
   refine ec bg hlt ?_
   refine fK ?_
   repeat (first|refine ad ?_|refine af (by decide) ?_|refine ac ?_|refine ah ?_|refine ag ?_)
   refine ⟨?_,hI⟩
   rw [upp,jd hlt,decide_eq_true h65,Bool.true_and]
   congr 1
   rw [decide_eq_decide]
   omega
  ·refine pa (by omega) ?_
   repeat (first|refine ad ?_|refine af (by decide) ?_|refine ac ?_|refine ah ?_|refine ag ?_)
   exact ⟨by rw [upp,jd hlt,decide_eq_false h65,Bool.false_and],hI⟩
 intro t34 _ _ _ _ _ _ _ _ _ w'
 rintro ⟨rfl,hI⟩
 split at h
 ·rename_i hup
  simp only [Option.some.injEq,Prod.mk.injEq] at h
  obtain ⟨rfl,rfl⟩:=h
  rw [hup]
  rw [upp,jd hlt,Bool.and_eq_true,decide_eq_true_eq,decide_eq_true_eq] at hup
  refine a8 (fun _=>?_) (fun hb=>by cases hb)
  refine ec bg hlt ?_
  refine HO (c:=(s[i].toNat:Int) - 65) (IntWalk.u8_in _ (by omega)) ?_
  refine mx fQ jc (IntWalk.i64_in _ (by omega)) ?_
  refine Run.callPure ri qV hI (lC _ S) fun w' hI=>?_
  refine ev (a:=i) (b:=1) rfl rfl (by omega) ?_
  refine bf hI 0 rfl ai rfl rfl (by simp [Value.oneCell']) fun w' hI=>?_
  refine bZ hI 0 ai rfl rfl ?_
  have eg:((s.getD i 0).toNat:Int) - 65=(s[i].toNat:Int) - 65:=by rw [List.getD_eq_getElem?_getD,List.getElem?_eq_getElem hlt]; rfl
  rw [eg]
  exact ⟨_,[],S,rfl,hI.nil,Ext.refl _ _ _,rfl,_,rfl,RdT.nil (by simp [inI]) (by unfold inI; omega) (by decide +kernel) (Nat.zero_le _)⟩
 rename_i hup
 rw [Bool.eq_false_iff.2 hup]
 refine a8 (fun hb=>by cases hb) (fun _=>?_)
 refine ⟨fun b w'=>b=.bool (dig s i || (sgn s i 45 && dig s (i+1)))/\Inv w [] [.blk b6 (.cells #[.int .i64 0,.int .i64 0,.string ⟨#[]⟩,.slice none 0 0] ab)] S w',?_,?_⟩
 ·refine Run.callPure gw gv hI (eY s i S) fun w' hI=>?_
  cases hdi:dig s i
  ·repeat (first|refine ad ?_|refine af (by decide) ?_|refine ac ?_|refine ah ?_|refine ag ?_)
   refine ec bg hlt ?_
   by_cases h45:s[i].toNat=45
   ·refine fM (by omega) ?_
    repeat (first|refine ad ?_|refine af (by decide) ?_|refine ac ?_|refine ah ?_|refine ag ?_)
    refine ev (a:=i) (b:=1) rfl rfl (by omega) ?_
    refine Run.callPure gw gv hI (eY s (i+1) S) fun w' hI=>?_
    repeat (first|refine ad ?_|refine af (by decide) ?_|refine ac ?_|refine ah ?_|refine ag ?_)
    exact ⟨by rw [g5 hlt,decide_eq_true h45,Bool.true_and,Bool.false_or],hI⟩
   ·refine er (by omega) ?_
    repeat (first|refine ad ?_|refine af (by decide) ?_|refine ac ?_|refine ah ?_|refine ag ?_)
    exact ⟨by rw [g5 hlt,decide_eq_false h45,Bool.false_and,Bool.false_or],hI⟩
  ·repeat (first|refine ad ?_|refine af (by decide) ?_|refine ac ?_|refine ah ?_|refine ag ?_)
   exact ⟨by rw [Bool.true_or],hI⟩
 intro t57 _ _ _ _ _ _ _ _ _ _ _ _ _ _ w'
 rintro ⟨rfl,hI⟩
 split at h
 ·cases h
 rename_i hdg
 have:(dig s i || (sgn s i 45 && dig s (i+1)))=false:=by
  rw [Bool.eq_false_iff,ne_eq,Bool.or_eq_true,Bool.and_eq_true]; exact hdg
 rw [this]
 refine a8 (fun hb=>by cases hb) (fun _=>?_)
 split at h
 ·cases h
 rename_i h91
 rw [g5 hlt,decide_eq_true_eq] at h91
 refine ⟨fun b w'=>b=.bool false/\Inv w [] [.blk b6 (.cells #[.int .i64 0,.int .i64 0,.string ⟨#[]⟩,.slice none 0 0] ab)] S w',?_,?_⟩
 ·refine ec bg hlt ?_
  refine er (by omega) ?_
  repeat (first|refine ad ?_|refine af (by decide) ?_|refine ac ?_|refine ah ?_|refine ag ?_)
  exact ⟨rfl,hI⟩
 intro t73 _ _ _ _ _ _ _ _ _ _ w'
 rintro ⟨rfl,hI⟩
 refine a8 (fun hb=>by cases hb) (fun _=>?_)
 refine Run.callPure pq nR hI (mz hlt hs S) fun w' hI=>?_
 cases hnm:nj s i with
 | none=>rw [hnm] at h; cases h
 | some q=>
 obtain ⟨name,m⟩:=q
 rw [hnm] at h
 simp only [] at h
 simp only [GK]
 have hnl:=lW hlt hnm
 refine bb (v:=.string (st name)) rfl ?_
 refine bb (v:=.int .i64 (m:Int)) rfl ?_
 refine ⟨fun b w'=>b=.bool (!sgn s m 40)/\Inv w [] [.blk b6 (.cells #[.int .i64 0,.int .i64 0,.string ⟨#[]⟩,.slice none 0 0] ab)] S w',?_,?_⟩
 ·refine eD (by omega) ?_
  repeat (first|refine ad ?_|refine af (by decide) ?_|refine ac ?_|refine ah ?_|refine ag ?_)
  refine Run.callPure cU cT hI (cB s m 40 S) fun w' hI=>?_
  refine cF ?_
  repeat (first|refine ad ?_|refine af (by decide) ?_|refine ac ?_|refine ah ?_|refine ag ?_)
  exact ⟨rfl,hI⟩
 intro t95 _ _ _ _ _ _ _ w'
 rintro ⟨rfl,hI⟩
 split at h
 ·rename_i h40'
  simp only [Option.some.injEq,Prod.mk.injEq] at h
  obtain ⟨rfl,rfl⟩:=h
  rw [h40']
  refine a8 (fun _=>?_) (fun hb=>by cases hb)
  refine Run.call0E dN dL hI (eo (st name) (ur hnl.2.2.1) (iM S) (by simp)) fun v I' S2 w'=>?_
  rintro ⟨rfl,cs,rfl,hcs⟩ hE2 hI
  obtain ⟨kv,rfl,_,_,_,a,k,rfl,_⟩:=RdT.iff.1 hcs
  refine bf hI 0 rfl ai rfl rfl (by simp [Value.oneCell']) fun w' hI=>?_
  refine bZ hI 0 ai rfl rfl ?_
  exact ⟨_,[],S2,rfl,hI.nil,hE2,rfl,_,rfl,hcs⟩
 ·rename_i h40'
  rw [Bool.not_eq_false] at h40'
  rw [h40']
  refine a8 (fun hb=>by cases hb) (fun _=>?_)
  split at h
  ·cases h
  rename_i ts k hts
  simp only [Option.some.injEq,Prod.mk.injEq] at h
  obtain ⟨rfl,rfl⟩:=h
  have hm:=gf h40'
  refine ev (a:=m) (b:=1) rfl rfl (by omega) ?_
  refine uG (a:=d) (b:=1) rfl rfl (by omega) (by omega) ?_
  refine Run.call0E Gd GS hI (hA (m+1) (d - 1) ts k S hts (by omega) (by omega) (by omega)) fun v I' S2 w'=>?_
  rintro ⟨rfl,u,rfl,hu⟩ hE2 hI
  refine bb (v:=u) rfl ?_
  refine bb (v:=.int .i64 (k:Int)) rfl ?_
  obtain ⟨a,c,rfl,_⟩:=id hu
  refine lH ⟨_,_,_,rfl⟩ ?_
  refine bf hI 0 rfl ai rfl rfl (by simp [Value.oneCell']) fun w' hI=>?_
  refine bZ hI 0 ai rfl rfl ?_
  exact ⟨_,[],S2,rfl,hI.nil,hE2,rfl,_,rfl,RdT.iff.2 ⟨_,rfl,by simp [inI,T.kind,xL],by simp [inI,T.n,xL],ur hnl.2.2.1,hu⟩⟩
theorem Hg {s:Bs} (hs:s.length<=100000) {i d n:Nat} {t:T} {S:az} (h:Jw s i=some (t,n)) (hd:2<=d) (hd2:d<=100):Tri Tryz.prog ot [.string (st s),.int .i64 (i:Int),.int .i64 (d:Int)] [] S (IC t n):=
 Ar (m0:=1) (by omega) hs (fun _ _ _ _ _ h=>by cases h) h hd hd2
theorem En {f:Nat} {s:Bs} (hs:s.length<=100000) {i d n:Nat} {ts:List T} {S:az} (h:CW f s i []=some (ts,n)) (hi:i<=s.length) (hd:2<=d) (hd2:d<=100) :
  Tri Tryz.prog Ae [.string (st s),.int .i64 (i:Int),.int .i64 (d:Int)] [] S (L5 ts n):=by
 intro w hI
 refine Au ?_
 unfold vX
 refine eB hI bD fun v0 w' hI=>?_
 refine ⟨fun a b w'=>∃ (f' i':Nat) (acc:List T) (S1:az) (css:List (List Value)),a=.int .i64 (i':Int)/\i'<=s.length/\CW f' s i' acc=some (ts,n)/\Ext w.heap.size [] S S1/\Rows 4 (RdT S1) css acc/\Inv w [] [bj b ab 4 css] S1 w',
  fun a _ _=>s.length+1 - (intOf a).toNat,⟨f,i,[],S,[],rfl,hi,h,Ext.refl _ _ _,Rows.nil _ _,hI⟩,?_⟩
 intro t1 _ _ _ _ _ _ _ _ _ _ _ _ _ _ t8 _ _ _ _ _ _ _ _ _ _ _ _ _ _ _ _ w'
 rintro ⟨f',i',acc,S1,css,rfl,hi2,hT,hE,hR,hI⟩
 have hcl:=hR.hc
 cases f' with
 | zero=>simp [CW] at hT
 | succ g=>
 rw [CW] at hT
 split at hT
 ·cases hT
 rename_i hacc
 split at hT
 ·cases hT
 rename_i t n' hr
 have hle:=Lr hr
 obtain ⟨Sx,hEx,hrdx,_⟩:=Inv.lendExt (A:=[]) hI
 refine a9 (RowRd.rows (hR.monoR fun _ _ h=>RdT.mono hEx.1 h) hrdx) av ?_
 refine zS (by omega) ?_
 refine a8 (fun _=>?_) (fun hb=>by cases hb)
 refine Run.call0E uf tC hI (Hg hs hr hd hd2) fun v I' S2 w'=>?_
 rintro ⟨rfl,cs,rfl,hcs⟩ hE2 hI
 have hR2:=hR.monoR fun _ _ h=>RdT.mono hE2.1 h
 obtain ⟨kv,rfl,_,_,_,a,m,rfl,_⟩:=RdT.iff.1 hcs
 refine bb (v:=.agg _) rfl ?_
 refine bb (v:=.int .i64 (n':Int)) rfl ?_
 refine bw hI bG fun b13 w' hI=>?_
 refine bf hI 1 rfl ai rfl rfl (by simp [Value.oneCell']) fun w' hI=>?_
 refine ba hI 1 ai rfl rfl ?_
 refine fX (css:=css) hI 0 _ bD (by omega) (by omega) rfl hcs.length hcs.one (by omega) (by omega) fun v' w' hI=>?_
 have hI:Inv w [] [bj v' ab 4 (css++[[.int .i64 t.kind,.int .i64 t.n,.string t.name,.slice a t.kids.length m]])] S2 w':=hI.pick [true,false]
 have hR3:=hR2.snoc hcs hcs.length
 refine Run.callPure cU cT hI (cB s n' 41 S2) fun w' hI=>?_
 refine a8 (fun hb=>?_) (fun hb=>?_)
 ·rw [if_pos hb] at hT
  simp only [Option.some.injEq,Prod.mk.injEq] at hT
  obtain ⟨rfl,rfl⟩:=hT
  refine ev (a:=n') (b:=1) rfl rfl (by omega) ?_
  obtain ⟨S3,hE3,hrd,hI⟩:=Inv.lendExt (A:=[]) hI
  have hrs:=RowRd.rows (hR3.monoR fun _ _ h=>RdT.mono hE3.1 h) hrd
  exact ⟨_,[],S3,rfl,hI,(hE.trans hE2).trans hE3,rfl,_,rfl,hrs⟩
 ·rw [if_neg (by rw [hb]; decide)] at hT
  split at hT
  ·rename_i h44
   refine Run.callPure cU cT hI (cB s n' 44 S2) fun w' hI=>?_
   refine cF ?_
   rw [h44]
   refine a8 (fun hb=>by cases hb) (fun _=>?_)
   have:=gf h44
   refine ev (a:=n') (b:=1) rfl rfl (by omega) ?_
   refine ⟨⟨g,n'+1,acc++[t],S2,css++[[.int .i64 t.kind,.int .i64 t.n,.string t.name,.slice a t.kids.length m]],rfl,by omega,hT,hE.trans hE2,hR3,hI⟩,?_⟩
   simp only [intOf,Int.toNat_natCast]
   omega
  ·cases hT
theorem Hm {s:Bs} (hs:s.length<=100000) {i n:Nat} {t:T} {S:az} (h:LP s i=some (t,n)):Tri Tryz.prog ot [.string (st s),.int .i64 (i:Int),.int .i64 ((30:Nat):Int)] [] S (IC t n):=
 Ar (m0:=2) (by omega) hs (fun _ _ _ _ _ h hi hd hd2=>En hs h hi (by omega) hd2) h (by omega) (by omega)
end
end Go.Proofs.YtemmhhdnlbmicaaGreat
