/- Texts read: spec.l1Struct, l1Chain, l2Read, l2Prime, l2Terms, l2Items. (printed by gen_read.py) -/
import Derived.Test.YtmnnpgdeecnfpaaGreatZPg4
import Derived.Test.YtmnnpgdeecnfpaaGreatZPg3
namespace Go.Proofs.YtmnnpgdeecnfpaaGreat
open Go Go.RowKit
theorem EF {s:Bs} {i e:Nat} {t:T} (hn:DO s i=some (t,e)):i<e/\e<=s.length:=by
 unfold DO at hn
 obtain ⟨fr,hfr⟩:∃ fr,fr=if sgn s i 45=true then i+1 else i:=⟨_,rfl⟩
 simp only [<- hfr] at hn
 have hle:=xB s 4 fr
 have hfi:i<=fr/\fr<=i+1:=by rw [hfr]; split <;> omega
 split at hn
 ·cases hn
 rename_i hc
 simp only [not_or] at hc
 simp only [Option.some.injEq,Prod.mk.injEq] at hn
 obtain ⟨_,rfl⟩:=hn
 have h2:fr<kR s 4 fr:=by
  rcases Nat.lt_or_ge fr (kR s 4 fr) with h|h
  ·exact h
  ·refine absurd ?_ hc.1
   rw [cut,List.drop_eq_nil_of_le]
   rw [List.length_take]
   omega
 have:=tZ (mJ s 4 fr (kR s 4 fr - 1) (by omega) (by omega))
 omega
theorem cJ:∀ f:Nat,(∀ s i d l t n,dI f s i d l=some (t,n)->i<n/\n<=s.length)/\(∀ s i d l t0 t n,zS f s i d l t0=some (t,n)->i<=s.length->i<=n/\n<=s.length)/\
  (∀ s i d t n,me f s i d=some (t,n)->i<n/\n<=s.length)/\(∀ s i d e o acc ts n,cW f s i d e o acc=some (ts,n)->i<n/\n<s.length)
 | 0=>⟨fun s i d l t n h=>by simp [dI] at h,fun s i d l t0 t n h=>by simp [zS] at h,fun s i d t n h=>by simp [me] at h,fun s i d e o acc ts n h=>by simp [cW] at h⟩
 | f+1=>by
  obtain ⟨h1,h2,h3,h4⟩:=cJ f
  refine ⟨fun s i d l t n h=>?_,fun s i d l t0 t n h hi=>?_,fun s i d t n h=>?_,fun s i d e o acc ts n h=>?_⟩
  ·cases l with
   | zero=>rw [dI] at h; exact h3 _ _ _ _ _ h
   | succ l=>
    rw [dI] at h
    split at h
    ·cases h
    ·rename_i t' n' hr
     have a:=h1 _ _ _ _ _ _ hr
     have b:=h2 _ _ _ _ _ _ _ h a.2
     omega
  ·rw [zS] at h
   split at h
   ·simp only [Option.some.injEq,Prod.mk.injEq] at h
    omega
   ·rename_i name after ho
    have a:=DI ho
    split at h
    ·split at h
     ·cases h
     ·rename_i r e hr
      have b:=h1 _ _ _ _ _ _ hr
      split at h
      ·simp only [Option.some.injEq,Prod.mk.injEq] at h
       omega
      ·have c:=h2 _ _ _ _ _ _ _ h b.2
       omega
    ·simp only [Option.some.injEq,Prod.mk.injEq] at h
     omega
  ·rw [me] at h
   split at h
   ·cases h
   rename_i h0
   have h0:i<s.length:=by omega
   split at h
   ·split at h
    ·cases h
    ·rename_i t' n' hr
     have a:=h1 _ _ _ _ _ _ hr
     split at h
     ·rename_i hs
      have:=cY hs
      simp only [Option.some.injEq,Prod.mk.injEq] at h
      omega
     ·cases h
   ·split at h
    ·split at h
     ·cases h
     ·rename_i ts n' hr
      have a:=h4 _ _ _ _ _ _ _ _ hr
      split at h
      ·simp only [Option.some.injEq,Prod.mk.injEq] at h
       omega
      ·split at h
       ·cases h
       ·rename_i t' e hr2
        have b:=h1 _ _ _ _ _ _ hr2
        split at h
        ·rename_i hs
         have:=cY hs
         simp only [Option.some.injEq,Prod.mk.injEq] at h
         omega
        ·cases h
    ·split at h
     ·simp only [Option.some.injEq,Prod.mk.injEq] at h
      omega
     ·split at h
      ·exact EF h
      ·split at h
       ·cases h
       ·rename_i name n' hn
        have a:=oW h0 hn
        split at h
        ·simp only [Option.some.injEq,Prod.mk.injEq] at h
         omega
        ·split at h
         ·cases h
         ·rename_i ts e hr
          have b:=h4 _ _ _ _ _ _ _ _ hr
          simp only [Option.some.injEq,Prod.mk.injEq] at h
          omega
  ·rw [cW] at h
   split at h
   ·cases h
   ·rename_i t' n' hr
    have a:=h1 _ _ _ _ _ _ hr
    split at h
    ·rename_i hs
     have hlt:n'<s.length:=hs.elim cY cY
     simp only [Option.some.injEq,Prod.mk.injEq] at h
     omega
    ·split at h
     ·have b:=h4 _ _ _ _ _ _ _ _ h
      omega
     ·cases h
abbrev Fx (t:T):Value->List Item->Store->Prop:=fun v I' S'=>I'=[]/\∃ cs,v=.agg cs.toArray/\RdT S' cs t
abbrev CQ (t:T) (n:Nat):Value->List Item->Store->Prop:=fun v I' S'=>I'=[]/\∃ cs,v=.tuple #[.agg cs.toArray,.int .i64 (n:Int)]/\RdT S' cs t
abbrev ER (ts:List T) (n:Nat):Value->List Item->Store->Prop:=fun v I' S'=>I'=[]/\∃ u,v=.tuple #[u,.int .i64 (n:Int)]/\RdSl S' 4 (RdT S') u ts
theorem eq (S:Store):RdSl S 4 (RdT S) (.slice none 0 0) []:=⟨none,0,rfl,Nat.le_refl _,Nat.zero_le _,.inl rfl⟩
theorem Bq {S:Store} {b:Nat} {E:TypeId} {a c:T} {k1 n1 k2 n2:Int} {s1 s2:ByteArray} {v1 v2:Value} (hS:S b=some (.cells #[.int .i64 k1,.int .i64 n1,.string s1,v1,.int .i64 k2,.int .i64 n2,.string s2,v2] E))
  (h1:RdT S [.int .i64 k1,.int .i64 n1,.string s1,v1] a) (h2:RdT S [.int .i64 k2,.int .i64 n2,.string s2,v2] c):RdSl S 4 (RdT S) (.slice (some ⟨b,0,none⟩) 2 2) [a,c]:=by
 refine ⟨_,2,rfl,Nat.le_refl _,by simp [maxLen],.inr ⟨b,0,_,E,(0,0),rfl,hS,fun i hi=>?_⟩⟩
 match i,hi with
 | 0,_=>exact h1
 | 1,_=>exact h2
section
variable {w w0:World} {X:List Nat} {L:List Item} {S:Store} {K:Value->World->Prop}
attribute [local irreducible] Run CondV GuardV LoadV
theorem bG {P:Program} {T:TypeId} {cx cy:Bool} {x y:Int} {a b:Nat} (hx:x=a) (hy:y=b) (hr:a+b<=1000000000000000) (hk:K (.int .i64 ((a+b:Nat):Int)) w):Run P (sBin .add T cx cy (.int .i64 x) (.int .i64 y)) w K:=by
 subst hx hy
 refine r_add (by omega) ?_
 rw [<- Int.natCast_add]
 exact hk
theorem tm {P:Program} {T:TypeId} {cx cy:Bool} {x y:Int} {a b:Nat} (hx:x=a) (hy:y=b) (hle:b<=a) (hr:a<=1000000000000000) (hk:K (.int .i64 ((a - b:Nat):Int)) w):Run P (sBin .sub T cx cy (.int .i64 x) (.int .i64 y)) w K:=by
 subst hx hy
 refine r_sub (by omega) ?_
 rw [<- Int.ofNat_sub hle]
 exact hk
theorem lD {s:ByteArray} {v:Value} (hv:∃ p n m,v=.slice p n m) (hk:K (.agg #[.int .i64 3,.int .i64 0,.string s,v]) w):Run Tryz.prog (sBuild ab [(0,.int .i64 3),(2,.string s),(3,v)]) w K:=by
 obtain ⟨p,n,m,rfl⟩:=hv
 refine Run.of (v:=.agg #[.int .i64 3,.int .i64 0,.string s,.slice p n m]) (w':=w) ?_ hk
 unfold sBuild
 rw [Sem.run_bind,run_build w ab _ #[.int .i64 3,.int .i64 0,.string s,.slice p n m] (by kernel_rfl),Result.andThen_ok]
 rfl
theorem mH (s:ByteArray) {ks:List T} {u:Value} (h:RdSl S 4 (RdT S) u ks) (hk:ks.length<=1000000):Tri Tryz.prog ol [.string s,u] [] S fun v I' S'=>S'=S/\∃ kv css,v=.agg #[.int .i64 3,.int .i64 0,.string s,kv]/\I'=[au kv ab 4 css]/\Rows 4 (RdT S) css ks:=by
 intro w hI
 refine pZ ?_
 unfold lB
 refine r_alloc hI aE fun b4 w' hI=>?_
 refine r_slice0 hI aJ fun v0 w' hI=>?_
 have hI:Inv w [] [.blk b4 (.cells #[.int .i64 0,.int .i64 0,.string ⟨#[]⟩,.slice none 0 0] ab),au v0 ab 4 []] S w':=hI
 refine mh hI 1 (css:=[]) aJ (by omega) rfl h (fun _ _=>RdT.length) (fun _ _=>RdT.one) (by simp; omega) (by omega) fun v' w' css2 hR hI=>?_
 have hI:Inv w [] [.blk b4 (.cells #[.int .i64 0,.int .i64 0,.string ⟨#[]⟩,.slice none 0 0] ab),au v' ab 4 css2] S w':=hI
 obtain ⟨a,n,c,rfl⟩:=hI.rowSlice 1 rfl
 refine lD ⟨_,_,_,rfl⟩ ?_
 refine ao hI 0 rfl ag rfl rfl (by simp [Value.oneCell']) fun w' hI=>?_
 refine loadV_W hI 0 ag rfl rfl ?_
 exact ⟨_,_,_,rfl,hI.sub (List.sublist_cons_self _ _),Ext.refl _ _ _,rfl,_,css2,rfl,rfl,hR⟩
theorem bu (s:ByteArray) (hs:s.size<=maxLen) {ks:List T} {u:Value} (h:RdSl S 4 (RdT S) u ks) (hk:ks.length<=1000000):Tri Tryz.prog ol [.string s,u] [] S (Fx (.mk 3 0 s ks)):=by
 intro w hI
 refine (mH s h hk w hI).mono ?_
 rintro e w' ⟨v,I',S',rfl,hI,hE,rfl,kv,css,rfl,rfl,hR⟩
 obtain ⟨S1,hE1,hrd,hI⟩:=Inv.lendExt (A:=[]) hI
 have hrs:=RowRd.rows (hR.monoR fun _ _ h=>RdT.mono hE1.1 h) hrd
 exact ⟨_,[],S1,rfl,hI,hE.trans hE1,rfl,[.int .i64 3,.int .i64 0,.string s,kv],rfl,RdT.iff.2 ⟨kv,rfl,by simp [inI,T.kind],by simp [inI,T.n],hs,hrs⟩⟩
theorem Bb {ts:List T} {j:Nat} (h:j<ts.length) (t:T):dw (ts.drop j) t=ye ts[j] (dw (ts.drop (j+1)) t):=by
 rw [List.drop_eq_getElem_cons h,dw]
theorem lC {ts:List T} {t:T} {u:Value} {cs:List Value} (h:RdSl S 4 (RdT S) u ts) (ht:RdT S cs t) (hl:ts.length<=1000000):Tri Tryz.prog yg [u,.agg cs.toArray] [] S (Fx (dw ts t)):=by
 intro w hI
 obtain ⟨kv,rfl,g1,g2,g3,g4⟩:=RdT.iff.1 ht
 obtain ⟨ka,kn,kc,hkv⟩:∃ a n m,kv=.slice a n m:=by
  obtain ⟨a,m,e,_⟩:=g4
  exact ⟨_,_,_,e⟩
 refine rF ?_
 unfold nT
 refine r_box hI fun b3 w' hI=>?_
 refine r_alloc hI aE fun b4 w' hI=>?_
 refine r_loadW hI 0 ag rfl rfl ?_
 refine r_alloc hI aE fun b5 w' hI=>?_
 refine ao hI 2 rfl ag rfl rfl (by simp [Value.oneCell',Value.cells,hkv]) fun w' hI=>?_
 refine r_lenSl h aj ?_
 refine r_sub (by omega) ?_
 obtain ⟨B3,hB3⟩:∃ B3,B3=Item.blk b3 (.cells #[.int .i64 t.kind,.int .i64 t.n,.string t.name,kv] ab):=⟨_,rfl⟩
 have hI:Inv w [] [B3,.blk b4 (.cells #[.int .i64 0,.int .i64 0,.string ⟨#[]⟩,.slice none 0 0] ab),.blk b5 (.cells #[.int .i64 t.kind,.int .i64 t.n,.string t.name,kv] ab)] S w':=by rw [hB3]; exact hI
 refine ⟨fun i w'=>∃ (j:Nat) (S1:Store) (ds:List Value),j<=ts.length/\i=.int .i64 ((j:Int) - 1)/\Ext w.heap.size [] S S1/\RdT S1 ds (dw (ts.drop j) t)/\Inv w [] [B3,.blk b4 (.cells #[.int .i64 0,.int .i64 0,.string ⟨#[]⟩,.slice none 0 0] ab),.blk b5 (.cells ds.toArray ab)] S1 w',
  fun i _=>(intOf i+1).toNat,⟨ts.length,S,_,Nat.le_refl _,rfl,Ext.refl _ _ _,by rw [List.drop_length]; exact ht,hI⟩,?_⟩
 intro t6 _ _ t21 t20 t19 t18 t17 t16 t15 _ _ w'
 rintro ⟨j,S1,ds,hj,rfl,hE,hds,hI⟩
 by_cases hj0:j=0
 ·subst hj0
  refine pA (by omega) ?_
  refine condV (fun hb=>by cases hb) (fun _=>?_)
  obtain ⟨kv',rfl,_,_,_,a,m,rfl,_⟩:=RdT.iff.1 hds
  refine r_loadW hI 2 ag rfl rfl ?_
  refine ao hI 1 rfl ag rfl rfl (by simp [Value.oneCell']) fun w' hI=>?_
  refine loadV_W hI 1 ag rfl rfl ?_
  exact ⟨_,_,_,rfl,hI.nil,hE,rfl,_,rfl,hds⟩
 ·refine gJ (by omega) ?_
  refine condV (fun _=>?_) (fun hb=>by cases hb)
  obtain ⟨m,rfl⟩:∃ m,j=m+1:=⟨j - 1,by omega⟩
  have hm:m<ts.length:=by omega
  have ej:((m+1:Nat):Int) - 1=(m:Int):=by omega
  rw [ej]
  obtain ⟨b,o,cap,c,E,fz,rfl,hS,hR⟩:=(h.monoT hE.1).at_ hm
  obtain ⟨ka',hca,_,_,_,aa,am,hka',_⟩:=RdT.iff.1 hR
  subst hka'
  obtain ⟨kd,rfl,_,_,_,da,dm,rfl,_⟩:=RdT.iff.1 hds
  obtain ⟨o1,ho1⟩:∃ o1,o1=dw (ts.drop (m+1)) t:=⟨_,rfl⟩
  rw [<- ho1] at hds hI
  obtain ⟨a1,ha1⟩:∃ a1,a1=ts[m]:=⟨_,rfl⟩
  rw [<- ha1] at hR hca
  skip
  refine ⟨fun D x21 x20 x19 x18 x17 x16 x15 w_=>(D 0=true->x15=.slice (some ⟨b,o,none⟩) ts.length cap)/\(D 1=true->x16=.int .i64 (m:Int))/\(D 2=true->x17=.pointer (some ⟨b,o+m * 4,none⟩))/\(D 3=true->x18=.agg #[.int .i64 a1.kind,.int .i64 a1.n,.string a1.name,.slice aa a1.kids.length am])/\(D 4=true->x19=.agg #[.int .i64 o1.kind,.int .i64 o1.n,.string o1.name,.slice da o1.kids.length dm])/\(D 5=true->True)/\(D 6=true->True)/\(D 7=true->True)/\∃ S2 c6,Ext w.heap.size [] S1 S2/\(D 5=true->RdSl S2 4 (RdT S2) x20 [a1,o1])/\(D 6=true->x21=.agg c6.toArray/\RdT S2 c6 (ye a1 o1))/\(D 7=true->D 6=true)/\(D 6=true->D 5=true)/\(D 5=true->D 4=true)/\Inv w [] [B3,.blk b4 (.cells #[.int .i64 0,.int .i64 0,.string ⟨#[]⟩,.slice none 0 0] ab),.blk b5 (.cells (match D 7 with|true=>c6.toArray|false=>#[.int .i64 o1.kind,.int .i64 o1.n,.string o1.name,.slice da o1.kids.length dm]) ab)] S2 w_,⟨fun h=>Bool.noConfusion h,fun h=>Bool.noConfusion h,fun h=>Bool.noConfusion h,fun h=>Bool.noConfusion h,fun h=>Bool.noConfusion h,fun h=>Bool.noConfusion h,fun h=>Bool.noConfusion h,fun h=>Bool.noConfusion h,⟨S1,[],Ext.refl _ _ _,fun h=>Bool.noConfusion h,fun h=>Bool.noConfusion h,fun h=>Bool.noConfusion h,fun h=>Bool.noConfusion h,fun h=>Bool.noConfusion h,hI.draw⟩⟩,⟨?_,?_,?_,?_,?_,?_,?_,?_,trivial⟩,?_⟩
  ·intro D hD_  x21 x20 x19 x18 x17 x16 x15 w_
   rintro ⟨h0_,h1_,h2_,h3_,h4_,h5_,h6_,h7_,⟨S2,c6,hE2,e5,e6,k7,k6,k5,hI⟩⟩
   exact ⟨fun _=>rfl,h1_,h2_,h3_,h4_,h5_,h6_,h7_,⟨S2,c6,hE2,e5,e6,k7,k6,k5,hI⟩⟩
  ·intro D hD_  x21 x20 x19 x18 x17 x16 x15 w_
   rintro ⟨h0_,h1_,h2_,h3_,h4_,h5_,h6_,h7_,⟨S2,c6,hE2,e5,e6,k7,k6,k5,hI⟩⟩
   exact ⟨h0_,fun _=>rfl,h2_,h3_,h4_,h5_,h6_,h7_,⟨S2,c6,hE2,e5,e6,k7,k6,k5,hI⟩⟩
  ·intro D hD_ d0_0 d1_1 x21 x20 x19 x18 x17 x16 x15 w_
   rintro ⟨h0_,h1_,h2_,h3_,h4_,h5_,h6_,h7_,⟨S2,c6,hE2,e5,e6,k7,k6,k5,hI⟩⟩
   obtain rfl:=h0_ d0_0
   obtain rfl:=h1_ d1_1
   refine r_indexAddr aj hm ?_
   exact ⟨h0_,h1_,fun _=>rfl,h3_,h4_,h5_,h6_,h7_,⟨S2,c6,hE2,e5,e6,k7,k6,k5,hI⟩⟩
  ·intro D hD_ d2_0 x21 x20 x19 x18 x17 x16 x15 w_
   rintro ⟨h0_,h1_,h2_,h3_,h4_,h5_,h6_,h7_,⟨S2,c6,hE2,e5,e6,k7,k6,k5,hI⟩⟩
   obtain rfl:=h2_ d2_0
   refine r_loadA (cs:=[.int .i64 a1.kind,.int .i64 a1.n,.string a1.name,.slice aa a1.kids.length am]) ag rfl (fun j v hj=>by rw [hI.cellS (hE2.1 _ _ hS)]; exact cellsAt_get hca j v hj) ?_
   exact ⟨h0_,h1_,h2_,fun _=>rfl,h4_,h5_,h6_,h7_,⟨S2,c6,hE2,e5,e6,k7,k6,k5,hI⟩⟩
  ·intro D hD_  x21 x20 x19 x18 x17 x16 x15 w_
   rintro ⟨h0_,h1_,h2_,h3_,h4_,h5_,h6_,h7_,⟨S2,c6,hE2,e5,e6,k7,k6,k5,hI⟩⟩
   have f5:D 5=false:=Bool.eq_false_iff.2 fun h=>by rw [k5 h] at hD_; cases hD_
   have f6:D 6=false:=Bool.eq_false_iff.2 fun h=>by rw [k6 h] at f5; cases f5
   have f7:D 7=false:=Bool.eq_false_iff.2 fun h=>by rw [k7 h] at f6; cases f6
   have hI0:=hI
   rw [f7] at hI
   refine r_loadW hI 2 ag rfl rfl ?_
   have hI:=hI0
   have k5:=fun (_:setD D 4 5=true)=>(rfl:setD D 4 4=true)
   exact ⟨h0_,h1_,h2_,h3_,fun _=>rfl,h5_,h6_,h7_,⟨S2,c6,hE2,e5,e6,k7,k6,k5,hI⟩⟩
  ·intro D hD_ d3_0 d4_1 x21 x20 x19 x18 x17 x16 x15 w_
   rintro ⟨h0_,h1_,h2_,h3_,h4_,h5_,h6_,h7_,⟨S2,c6,hE2,e5,e6,k7,k6,k5,hI⟩⟩
   obtain rfl:=h3_ d3_0
   obtain rfl:=h4_ d4_1
   have f6:D 6=false:=Bool.eq_false_iff.2 fun h=>by rw [k6 h] at hD_; cases hD_
   have f7:D 7=false:=Bool.eq_false_iff.2 fun h=>by rw [k7 h] at f6; cases f6
   rw [f7] at hI
   refine mr (v:=fun b=>.slice (some ⟨b,0,none⟩) 2 2) (o:=.cells #[.int .i64 a1.kind,.int .i64 a1.n,.string a1.name,.slice aa a1.kids.length am,.int .i64 o1.kind,.int .i64 o1.n,.string o1.name,.slice da o1.kids.length dm] ab) hI (by kernel_rfl) fun b20 w_ hI=>?_
   obtain ⟨S2,hI,hE3,hS3⟩:=Inv.pub1 (A:=[_,_,_]) hI
   have hE2:=hE2.trans hE3
   have hR':RdT S2 [.int .i64 a1.kind,.int .i64 a1.n,.string a1.name,.slice aa a1.kids.length am] a1:=by
    have:=RdT.mono hE2.1 hR
    rwa [hca] at this
   have e5:=fun (_:setD D 5 5=true)=>Bq hS3 hR' (RdT.mono hE2.1 hds)
   have e6:=fun (h:D 6=true)=>(absurd h (by rw [f6]; decide):x21=.agg c6.toArray/\RdT S2 c6 (ye a1 o1))
   have k6:=fun (_:setD D 5 6=true)=>(rfl:setD D 5 5=true)
   have k5:=fun (_:setD D 5 5=true)=>d4_1
   have hI:Inv w [] [B3,.blk b4 (.cells #[.int .i64 0,.int .i64 0,.string ⟨#[]⟩,.slice none 0 0] ab),.blk b5 (.cells (match D 7 with|true=>c6.toArray|false=>#[.int .i64 o1.kind,.int .i64 o1.n,.string o1.name,.slice da o1.kids.length dm]) ab)] S2 w_:=by
    rw [f7]
    exact hI
   exact ⟨h0_,h1_,h2_,h3_,h4_,fun _=>by first|assumption|trivial,h6_,h7_,⟨S2,c6,hE2,e5,e6,k7,k6,k5,hI⟩⟩
  ·intro D hD_ d5_0 x21 x20 x19 x18 x17 x16 x15 w_
   rintro ⟨h0_,h1_,h2_,h3_,h4_,h5_,h6_,h7_,⟨S2,c6,hE2,e5,e6,k7,k6,k5,hI⟩⟩
   have g5_:=h5_ d5_0
   have f7:D 7=false:=Bool.eq_false_iff.2 fun h=>by rw [k7 h] at hD_; cases hD_
   rw [f7] at hI
   refine Run.call0E bg bh hI (bu ⟨#[46]⟩ (by decide +kernel) (e5 d5_0) (by simp)) fun v' I' S2 w_=>?_
   rintro ⟨rfl,c6,rfl,hc6⟩ hE3 hI
   have hE2:=hE2.trans hE3
   have e5:=fun (h:D 5=true)=>(e5 h).monoT hE3.1
   have e6:setD D 6 6=true->Value.agg c6.toArray=Value.agg c6.toArray/\RdT S2 c6 (ye a1 o1):=fun _=>⟨rfl,hc6⟩
   have k7:=fun (_:setD D 6 7=true)=>(rfl:setD D 6 6=true)
   have k6:=fun (_:setD D 6 6=true)=>d5_0
   have hI:Inv w [] [B3,.blk b4 (.cells #[.int .i64 0,.int .i64 0,.string ⟨#[]⟩,.slice none 0 0] ab),.blk b5 (.cells (match D 7 with|true=>c6.toArray|false=>#[.int .i64 o1.kind,.int .i64 o1.n,.string o1.name,.slice da o1.kids.length dm]) ab)] S2 w_:=by
    rw [f7]
    exact hI
   exact ⟨h0_,h1_,h2_,h3_,h4_,h5_,fun _=>by first|assumption|trivial,h7_,⟨S2,c6,hE2,e5,e6,k7,k6,k5,hI⟩⟩
  ·intro D hD_ d6_0 d6_1 d0_2 d1_3 d2_4 d3_5 d4_6 d5_7 d6_8 x21 x20 x19 x18 x17 x16 x15 w_
   rintro ⟨h0_,h1_,h2_,h3_,h4_,h5_,h6_,h7_,⟨S2,c6,hE2,e5,e6,k7,k6,k5,hI⟩⟩
   have g6_:=h6_ d6_0
   obtain ⟨q6,hc6⟩:=e6 d6_0
   subst q6
   rw [hD_] at hI
   have hone:=hc6.one
   have hlen:=hc6.length
   refine ao hI 2 rfl ag (by simpa using hlen) rfl (by simpa using hone) fun w_ hI=>?_
   have k7:=fun (_:setD D 7 7=true)=>d6_0
   exact ⟨h0_,h1_,h2_,h3_,h4_,h5_,h6_,fun _=>trivial,⟨S2,c6,hE2,e5,e6,k7,k6,k5,hI⟩⟩
  intro D d7_ d6_ d5_ d4_ d3_ d2_ d1_ d0_ x21 x20 x19 x18 x17 x16 x15 w_
  rintro ⟨h0_,h1_,h2_,h3_,h4_,h5_,h6_,h7_,⟨S2,c6,hE2,e5,e6,k7,k6,k5,hI⟩⟩
  have g6_:=h6_ d6_
  have g5_:=h5_ d5_
  obtain rfl:=h4_ d4_
  obtain rfl:=h3_ d3_
  obtain rfl:=h2_ d2_
  obtain rfl:=h1_ d1_
  obtain rfl:=h0_ d0_
  clear h0_ h1_ h2_ h3_ h4_ h5_ h6_ h7_
  rw [d7_] at hI
  obtain ⟨_,hc6⟩:=e6 d6_
  refine r_sub (by omega) ?_
  refine ⟨⟨m,S2,c6,by omega,rfl,hE.trans hE2,?_,hI⟩,by simp [intOf]⟩
  rw [Bb hm,<- ha1,<- ho1]
  exact hc6
end
def jB (f:Nat):Prop:=∀ (s:Bs) (i d l:Nat) (t:T) (n:Nat) (S:Store),dI f s i d l=some (t,n)->s.length<=100000->i<=s.length->d<=100->l<=3->
 Tri Tryz.prog Ad [.string (st s),.int .i64 (i:Int),.int .i64 (d:Int),.int .i64 (l:Int)] [] S (CQ t n)
def xu (f:Nat):Prop:=∀ (s:Bs) (i d:Nat) (t:T) (n:Nat) (S:Store),me f s i d=some (t,n)->s.length<=100000->i<=s.length->d<=100->
 Tri Tryz.prog yC [.string (st s),.int .i64 (i:Int),.int .i64 (d:Int)] [] S (CQ t n)
def oC (f:Nat):Prop:=∀ (s:Bs) (i d e o:Nat) (ts:List T) (n:Nat) (S:Store),cW f s i d e o []=some (ts,n)->s.length<=100000->i<=s.length->d<=100->
 Tri Tryz.prog zv [.string (st s),.int .i64 (i:Int),.int .i64 (d:Int),.int .u8 (e:Int),.int .u8 (o:Int)] [] S (ER ts n)
theorem wb:∀ (f:Nat) (s:Bs) (i d e o:Nat) (acc ts:List T) (n:Nat),cW f s i d e o acc=some (ts,n)->ts.length+i<=acc.length+n
 | 0,s,i,d,e,o,acc,ts,n,h=>by simp [cW] at h
 | f+1,s,i,d,e,o,acc,ts,n,h=>by
  rw [cW] at h
  split at h
  ·cases h
  ·rename_i t' n' hr
   have a:=(cJ f).1 _ _ _ _ _ _ hr
   split at h
   ·simp only [Option.some.injEq,Prod.mk.injEq] at h
    obtain ⟨rfl,rfl⟩:=h
    rw [List.length_append]
    simp only [List.length_cons,List.length_nil]
    omega
   ·split at h
    ·have b:=wb f _ _ _ _ _ _ _ _ h
     rw [List.length_append] at b
     simp only [List.length_cons,List.length_nil] at b
     omega
    ·cases h
section
attribute [local irreducible] Run CondV GuardV LoadV
theorem Dg {f:Nat} (ih:∀ g,g<f->jB g):oC f:=by
 intro s i d e o ts n S h hs hi hd w hI
 refine rh ?_
 unfold ou
 refine r_slice0 hI aJ fun v0 w' hI=>?_
 refine ⟨fun a b w'=>∃ (f' i':Nat) (acc:List T) (S1:Store) (css:List (List Value)),f'<=f/\a=.int .i64 (i':Int)/\i<=i'/\i'<=s.length/\acc.length+i<=i'/\cW f' s i' d e o acc=some (ts,n)/\Ext w.heap.size [] S S1/\Rows 4 (RdT S1) css acc/\Inv w [] [au b ab 4 css] S1 w',
  fun a _ _=>s.length+1 - (intOf a).toNat,⟨f,i,[],S,[],Nat.le_refl _,rfl,Nat.le_refl _,hi,by simp,h,Ext.refl _ _ _,Rows.nil _ _,hI⟩,?_⟩
 intro t1 _ _ _ _ _ _ _ _ _ _ _ _ _ _ _ _ _ _ _ _ t12 _ _ _ _ _ _ _ _ _ _ _ _ _ _ _ _ _ _ w'
 rintro ⟨f',i',acc,S1,css,hf',rfl,hi1,hi2,hacc,hT,hE,hR,hI⟩
 have hcl:=hR.hc
 cases f' with
 | zero=>simp [cW] at hT
 | succ g=>
 rw [cW] at hT
 split at hT
 ·cases hT
 rename_i t n' hr
 have hle:=(cJ g).1 _ _ _ _ _ _ hr
 refine Run.call0E cm cg hI (ih g (by omega) s i' d 3 t n' S1 hr hs hi2 hd (by omega)) fun v I' S2 w'=>?_
 rintro ⟨rfl,cs,rfl,hcs⟩ hE2 hI
 have hR2:=hR.monoR fun _ _ h=>RdT.mono hE2.1 h
 obtain ⟨kv,rfl,_,_,_,a,m,rfl,_⟩:=RdT.iff.1 hcs
 refine r_extract (v:=.agg _) rfl ?_
 refine r_extract (v:=.int .i64 (n':Int)) rfl ?_
 refine r_alloc hI aE fun b13 w' hI=>?_
 refine ao hI 1 rfl ag rfl rfl (by simp [Value.oneCell']) fun w' hI=>?_
 refine bH (by omega) ?_
 refine condV (fun hb=>by cases hb) (fun _=>?_)
 refine r_loadW hI 1 ag rfl rfl ?_
 refine bx (css:=css) hI 0 _ aJ (by omega) (by omega) rfl hcs.length hcs.one (by omega) (by omega) fun v' w' hI=>?_
 have hI:Inv w [] [au v' ab 4 (css++[[.int .i64 t.kind,.int .i64 t.n,.string t.name,.slice a t.kids.length m]])] S2 w':=hI.pick [true,false]
 have hR3:=hR2.snoc hcs hcs.length
 refine ⟨fun b w'=>b=.bool (sgn s n' e || sgn s n' o)/\Inv w [] [au v' ab 4 (css++[[.int .i64 t.kind,.int .i64 t.n,.string t.name,.slice a t.kids.length m]])] S2 w',?_,?_⟩
 ·refine Run.callPure aX aW hI (aT s n' e S2) fun w' hI=>?_
  cases he:sgn s n' e
  ·repeat (first|refine ac ?_|refine ae (by decide) ?_|refine ad ?_|refine ai ?_|refine ah ?_)
   refine Run.callPure aX aW hI (aT s n' o S2) fun w' hI=>?_
   repeat (first|refine ac ?_|refine ae (by decide) ?_|refine ad ?_|refine ai ?_|refine ah ?_)
   exact ⟨by simp,hI⟩
  ·repeat (first|refine ac ?_|refine ae (by decide) ?_|refine ad ?_|refine ai ?_|refine ah ?_)
   exact ⟨by simp,hI⟩
 intro t39 _ _ _ _ _ _ _ _ _ w'
 rintro ⟨rfl,hI⟩
 refine condV (fun hb=>?_) (fun hb=>?_)
 ·rw [Bool.or_eq_true] at hb
  rw [if_pos hb] at hT
  simp only [Option.some.injEq,Prod.mk.injEq] at hT
  obtain ⟨rfl,rfl⟩:=hT
  obtain ⟨S3,hE3,hrd,hI⟩:=Inv.lendExt (A:=[]) hI
  have hrs:=RowRd.rows (hR3.monoR fun _ _ h=>RdT.mono hE3.1 h) hrd
  exact ⟨_,[],S3,rfl,hI,(hE.trans hE2).trans hE3,rfl,_,rfl,hrs⟩
 ·have hb':¬ (sgn s n' e=true ∨ sgn s n' o=true):=fun h=>by rw [<- Bool.or_eq_true,hb] at h; cases h
  rw [if_neg hb'] at hT
  split at hT
  ·rename_i h44
   refine Run.callPure aX aW hI (aT s n' 44 S2) fun w' hI=>?_
   refine r_not ?_
   rw [h44]
   refine condV (fun hb=>by cases hb) (fun _=>?_)
   have:=cY h44
   refine bG (a:=n') (b:=1) rfl rfl (by omega) ?_
   refine ⟨⟨g,n'+1,acc++[t],S2,css++[[.int .i64 t.kind,.int .i64 t.n,.string t.name,.slice a t.kids.length m]],by omega,rfl,by omega,by omega,?_,hT,hE.trans hE2,hR3,hI⟩,?_⟩
   ·rw [List.length_append]; simp only [List.length_cons,List.length_nil]; omega
   ·simp only [intOf,Int.toNat_natCast]; omega
  ·cases hT
theorem zm {g:Nat} (hT:oC g) (hR:jB g) {s:Bs} {i d:Nat} {ts:List T} {n:Nat} {t:T} {e:Nat} (h1:cW g s i d 93 124 []=some (ts,n))
  (h2:(sgn s n 93=true/\t=dw ts Fm/\e=n+1) ∨ (sgn s n 93=false/\∃ u m,dI g s (n+1) d 3=some (u,m)/\sgn s m 93=true/\t=dw ts u/\e=m+1))
  (hs:s.length<=100000) (hi:i<=s.length) (hd:d<=100) (S:Store):Tri Tryz.prog ya [.string (st s),.int .i64 (i:Int),.int .i64 (d:Int)] [] S (CQ t e):=by
 intro w hI
 have hle:=(cJ g).2.2.2 _ _ _ _ _ _ _ _ h1
 have hln:=wb _ _ _ _ _ _ _ _ _ h1
 simp only [List.length_nil] at hln
 refine rE ?_
 unfold mI
 refine r_alloc hI aE fun b6 w' hI=>?_
 refine Run.call0E oM oY hI (hT s i d 93 124 ts n S h1 hs hi hd) fun v I' S1 w'=>?_
 rintro ⟨rfl,u,rfl,hu⟩ hE1 hI
 have hI:Inv w [] [.blk b6 (.cells #[.int .i64 0,.int .i64 0,.string ⟨#[]⟩,.slice none 0 0] ab)] S1 w':=hI
 refine r_extract (v:=u) rfl ?_
 refine r_extract (v:=.int .i64 (n:Int)) rfl ?_
 refine bH (by omega) ?_
 refine condV (fun hb=>by cases hb) (fun _=>?_)
 refine Run.callPure aX aW hI (aT s n 93 S1) fun w' hI=>?_
 rcases h2 with ⟨h3,rfl,rfl⟩|⟨h3,x,m,h4,h5,rfl,rfl⟩
 ·rw [h3]
  refine condV (fun _=>?_) (fun hb=>by cases hb)
  refine Run.call0E bg bh hI (bu ⟨#[91,93]⟩ (by decide +kernel) (eq S1) (by simp)) fun v I' S2 w'=>?_
  rintro ⟨rfl,cs,rfl,hcs⟩ hE2 hI
  refine Run.call0E ox nf hI (lC (hu.monoT hE2.1) hcs (by omega)) fun v I' S3 w'=>?_
  rintro ⟨rfl,ds,rfl,hds⟩ hE3 hI
  refine bG (a:=n) (b:=1) rfl rfl (by omega) ?_
  obtain ⟨kv,rfl,_,_,_,a,k,rfl,_⟩:=RdT.iff.1 hds
  refine ao hI 0 rfl ag rfl rfl (by simp [Value.oneCell']) fun w' hI=>?_
  refine loadV_W hI 0 ag rfl rfl ?_
  exact ⟨_,[],S3,rfl,hI.nil,(hE1.trans hE2).trans hE3,rfl,_,rfl,hds⟩
 ·rw [h3]
  refine condV (fun hb=>by cases hb) (fun _=>?_)
  refine bG (a:=n) (b:=1) rfl rfl (by omega) ?_
  have hle2:=(cJ g).1 _ _ _ _ _ _ h4
  refine Run.call0E cm cg hI (hR s (n+1) d 3 x m S1 h4 hs (by omega) hd (by omega)) fun v I' S2 w'=>?_
  rintro ⟨rfl,cs,rfl,hcs⟩ hE2 hI
  obtain ⟨kv,rfl,_,_,_,a,k,rfl,_⟩:=RdT.iff.1 hcs
  refine r_extract (v:=.agg _) rfl ?_
  refine r_extract (v:=.int .i64 (m:Int)) rfl ?_
  refine r_alloc hI aE fun b10 w' hI=>?_
  refine ao hI 1 rfl ag rfl rfl (by simp [Value.oneCell']) fun w' hI=>?_
  refine bH (by omega) ?_
  refine condV (fun hb=>by cases hb) (fun _=>?_)
  refine Run.callPure aX aW hI (aT s m 93 S2) fun w' hI=>?_
  refine r_not ?_
  rw [h5]
  refine condV (fun hb=>by cases hb) (fun _=>?_)
  refine r_loadW hI 1 ag rfl rfl ?_
  refine Run.call0E ox nf hI (lC (hu.monoT hE2.1) hcs (by omega)) fun v I' S3 w'=>?_
  rintro ⟨rfl,ds,rfl,hds⟩ hE3 hI
  refine bG (a:=m) (b:=1) rfl rfl (by omega) ?_
  obtain ⟨kv,rfl,_,_,_,a,k,rfl,_⟩:=RdT.iff.1 hds
  refine ao hI 0 rfl ag rfl rfl (by simp [Value.oneCell']) fun w' hI=>?_
  refine loadV_W hI 0 ag rfl rfl ?_
  exact ⟨_,[],S3,rfl,hI.nil,(hE1.trans hE2).trans hE3,rfl,_,rfl,hds⟩
theorem xP {n:Bs} (h:n.length<=6):(st n).size<=maxLen:=by rw [fb]; simp only [maxLen]; omega
theorem Df {f:Nat} (ihR:∀ g,g<f->jB g) (ihT:∀ g,g<f->oC g):xu f:=by
 intro s i d t n S h hs hi hd w hI
 cases f with
 | zero=>simp [me] at h
 | succ g=>
 have hR:=ihR g (by omega)
 have hT:=ihT g (by omega)
 have hle:=(cJ (g+1)).2.2.1 _ _ _ _ _ h
 rw [me] at h
 split at h
 ·cases h
 rename_i h0
 have hd0:1<=d:=by omega
 have hlt:i<s.length:=by omega
 refine rU ?_
 unfold mX
 refine r_alloc hI aE fun b6 w' hI=>?_
 have hI:Inv w [] [.blk b6 (.cells #[.int .i64 0,.int .i64 0,.string ⟨#[]⟩,.slice none 0 0] ab)] S w':=hI
 refine ⟨fun b w'=>b=.bool false/\Inv w [] [.blk b6 (.cells #[.int .i64 0,.int .i64 0,.string ⟨#[]⟩,.slice none 0 0] ab)] S w',?_,?_⟩
 ·refine bH (by omega) ?_
  repeat (first|refine ac ?_|refine ae (by decide) ?_|refine ad ?_|refine ai ?_|refine ah ?_)
  refine bS ar ?_
  refine pA (by omega) ?_
  repeat (first|refine ac ?_|refine ae (by decide) ?_|refine ad ?_|refine ai ?_|refine ah ?_)
  exact ⟨rfl,hI⟩
 intro t23 _ _ _ _ _ _ _ w'
 rintro ⟨rfl,hI⟩
 refine condV (fun hb=>by cases hb) (fun _=>?_)
 refine bB ar hlt ?_
 split at h
 ·rename_i h40
  rw [eI hlt,decide_eq_true_eq] at h40
  refine bY (by omega) ?_
  refine condV (fun _=>?_) (fun hb=>by cases hb)
  split at h
  ·cases h
  rename_i u m hr
  split at h
  ·rename_i h41
   simp only [Option.some.injEq,Prod.mk.injEq] at h
   obtain ⟨rfl,rfl⟩:=h
   have hle2:=(cJ g).1 _ _ _ _ _ _ hr
   refine bG (a:=i) (b:=1) rfl rfl (by omega) ?_
   refine Run.call0E cm cg hI (hR s (i+1) d 3 u m S hr hs (by omega) hd (by omega)) fun v I' S2 w'=>?_
   rintro ⟨rfl,cs,rfl,hcs⟩ hE2 hI
   obtain ⟨kv,rfl,_,_,_,a,k,rfl,_⟩:=RdT.iff.1 hcs
   refine r_extract (v:=.agg _) rfl ?_
   refine r_extract (v:=.int .i64 (m:Int)) rfl ?_
   refine r_alloc hI aE fun b8 w' hI=>?_
   refine ao hI 1 rfl ag rfl rfl (by simp [Value.oneCell']) fun w' hI=>?_
   refine bH (by omega) ?_
   refine condV (fun hb=>by cases hb) (fun _=>?_)
   refine Run.callPure aX aW hI (aT s m 41 S2) fun w' hI=>?_
   refine r_not ?_
   rw [h41]
   refine condV (fun hb=>by cases hb) (fun _=>?_)
   refine r_loadW hI 1 ag rfl rfl ?_
   refine bG (a:=m) (b:=1) rfl rfl (by omega) ?_
   refine ao hI 0 rfl ag rfl rfl (by simp [Value.oneCell']) fun w' hI=>?_
   refine loadV_W hI 0 ag rfl rfl ?_
   exact ⟨_,[],S2,rfl,hI.nil,hE2,rfl,_,rfl,hcs⟩
  ·cases h
 rename_i h40
 rw [eI hlt,decide_eq_true_eq] at h40
 refine bF (by omega) ?_
 refine condV (fun hb=>by cases hb) (fun _=>?_)
 refine ⟨fun b w'=>b=.bool (sgn s i 91 && !sgn s (i+1) 93)/\Inv w [] [.blk b6 (.cells #[.int .i64 0,.int .i64 0,.string ⟨#[]⟩,.slice none 0 0] ab)] S w',?_,?_⟩
 ·refine bB ar hlt ?_
  by_cases h91:s[i].toNat=91
  ·refine bY (by omega) ?_
   repeat (first|refine ac ?_|refine ae (by decide) ?_|refine ad ?_|refine ai ?_|refine ah ?_)
   refine bG (a:=i) (b:=1) rfl rfl (by omega) ?_
   refine Run.callPure aX aW hI (aT s (i+1) 93 S) fun w' hI=>?_
   refine r_not ?_
   repeat (first|refine ac ?_|refine ae (by decide) ?_|refine ad ?_|refine ai ?_|refine ah ?_)
   exact ⟨by rw [eI hlt,decide_eq_true h91,Bool.true_and],hI⟩
  ·refine bF (by omega) ?_
   repeat (first|refine ac ?_|refine ae (by decide) ?_|refine ad ?_|refine ai ?_|refine ah ?_)
   exact ⟨by rw [eI hlt,decide_eq_false h91,Bool.false_and],hI⟩
 intro t65 _ _ _ _ _ _ _ _ _ _ w'
 rintro ⟨rfl,hI⟩
 split at h
 ·rename_i h91
  rw [h91.1,h91.2]
  refine condV (fun _=>?_) (fun hb=>by cases hb)
  split at h
  ·cases h
  rename_i ts m hts
  have h2:(sgn s m 93=true/\t=dw ts Fm/\n=m+1) ∨ (sgn s m 93=false/\∃ u k,dI g s (m+1) (d - 1) 3=some (u,k)/\sgn s k 93=true/\t=dw ts u/\n=k+1):=by
   split at h
   ·rename_i h3
    simp only [Option.some.injEq,Prod.mk.injEq] at h
    exact .inl ⟨h3,h.1.symm,h.2.symm⟩
   ·rename_i h3
    split at h
    ·cases h
    rename_i u k hr
    split at h
    ·rename_i h4
     simp only [Option.some.injEq,Prod.mk.injEq] at h
     exact .inr ⟨Bool.eq_false_iff.2 h3,u,k,hr,h4,h.1.symm,h.2.symm⟩
    ·cases h
  refine bG (a:=i) (b:=1) rfl rfl (by omega) ?_
  refine tm (a:=d) (b:=1) rfl rfl hd0 (by omega) ?_
  refine Run.call0E xC xR hI (zm hT hR hts h2 hs (by omega) (by omega) S) fun v I' S2 w'=>?_
  rintro ⟨rfl,cs,rfl,hcs⟩ hE2 hI
  obtain ⟨kv,rfl,_,_,_,a,k,rfl,_⟩:=RdT.iff.1 hcs
  refine r_extract (v:=.agg _) rfl ?_
  refine r_extract (v:=.int .i64 (n:Int)) rfl ?_
  refine ao hI 0 rfl ag rfl rfl (by simp [Value.oneCell']) fun w' hI=>?_
  refine loadV_W hI 0 ag rfl rfl ?_
  exact ⟨_,[],S2,rfl,hI.nil,hE2,rfl,_,rfl,hcs⟩
 rename_i h91
 have e91:(sgn s i 91 && !sgn s (i+1) 93)=false:=by
  cases h5:sgn s i 91
  ·rfl
  ·cases h6:sgn s (i+1) 93
   ·exact absurd ⟨h5,h6⟩ h91
   ·rfl
 rw [e91]
 refine condV (fun hb=>by cases hb) (fun _=>?_)
 refine ⟨fun b w'=>b=.bool (upp s i)/\Inv w [] [.blk b6 (.cells #[.int .i64 0,.int .i64 0,.string ⟨#[]⟩,.slice none 0 0] ab)] S w',?_,?_⟩
 ·refine bB ar hlt ?_
  by_cases h65:65<=s[i].toNat
  ·refine gJ (by omega) ?_
   repeat (first|refine ac ?_|refine ae (by decide) ?_|refine ad ?_|refine ai ?_|refine ah ?_)
   refine bB ar hlt ?_
   refine r_leq ?_
   repeat (first|refine ac ?_|refine ae (by decide) ?_|refine ad ?_|refine ai ?_|refine ah ?_)
   refine ⟨?_,hI⟩
   rw [upp,gL hlt,decide_eq_true h65,Bool.true_and]
   congr 1
   rw [decide_eq_decide]
   omega
  ·refine pA (by omega) ?_
   repeat (first|refine ac ?_|refine ae (by decide) ?_|refine ad ?_|refine ai ?_|refine ah ?_)
   exact ⟨by rw [upp,gL hlt,decide_eq_false h65,Bool.false_and],hI⟩
 intro t83 _ _ _ _ _ _ _ _ _ w'
 rintro ⟨rfl,hI⟩
 split at h
 ·rename_i hup
  simp only [Option.some.injEq,Prod.mk.injEq] at h
  obtain ⟨rfl,rfl⟩:=h
  rw [hup]
  rw [upp,gL hlt,Bool.and_eq_true,decide_eq_true_eq,decide_eq_true_eq] at hup
  refine condV (fun _=>?_) (fun hb=>by cases hb)
  refine bB ar hlt ?_
  refine DY (c:=(s[i].toNat:Int) - 65) (IntWalk.u8_in _ (by omega)) ?_
  refine jL cf db (IntWalk.i64_in _ (by omega)) ?_
  refine Run.callPure sX tF hI (lh _ S) fun w' hI=>?_
  refine bG (a:=i) (b:=1) rfl rfl (by omega) ?_
  refine ao hI 0 rfl ag rfl rfl (by simp [Value.oneCell']) fun w' hI=>?_
  refine loadV_W hI 0 ag rfl rfl ?_
  have eg:((s.getD i 0).toNat:Int) - 65=(s[i].toNat:Int) - 65:=by rw [List.getD_eq_getElem?_getD,List.getElem?_eq_getElem hlt]; rfl
  rw [eg]
  exact ⟨_,[],S,rfl,hI.nil,Ext.refl _ _ _,rfl,_,rfl,RdT.nil (by simp [inI]) (by unfold inI; omega) (by decide +kernel) (Nat.zero_le _)⟩
 rename_i hup
 rw [Bool.eq_false_iff.2 hup]
 refine condV (fun hb=>by cases hb) (fun _=>?_)
 refine ⟨fun b w'=>b=.bool (dig s i || (sgn s i 45 && dig s (i+1)))/\Inv w [] [.blk b6 (.cells #[.int .i64 0,.int .i64 0,.string ⟨#[]⟩,.slice none 0 0] ab)] S w',?_,?_⟩
 ·refine Run.callPure er ed hI (cI s i S) fun w' hI=>?_
  cases hdi:dig s i
  ·repeat (first|refine ac ?_|refine ae (by decide) ?_|refine ad ?_|refine ai ?_|refine ah ?_)
   refine bB ar hlt ?_
   by_cases h45:s[i].toNat=45
   ·refine bY (by omega) ?_
    repeat (first|refine ac ?_|refine ae (by decide) ?_|refine ad ?_|refine ai ?_|refine ah ?_)
    refine bG (a:=i) (b:=1) rfl rfl (by omega) ?_
    refine Run.callPure er ed hI (cI s (i+1) S) fun w' hI=>?_
    repeat (first|refine ac ?_|refine ae (by decide) ?_|refine ad ?_|refine ai ?_|refine ah ?_)
    exact ⟨by rw [eI hlt,decide_eq_true h45,Bool.true_and,Bool.false_or],hI⟩
   ·refine bF (by omega) ?_
    repeat (first|refine ac ?_|refine ae (by decide) ?_|refine ad ?_|refine ai ?_|refine ah ?_)
    exact ⟨by rw [eI hlt,decide_eq_false h45,Bool.false_and,Bool.false_or],hI⟩
  ·repeat (first|refine ac ?_|refine ae (by decide) ?_|refine ad ?_|refine ai ?_|refine ah ?_)
   exact ⟨by rw [Bool.true_or],hI⟩
 intro t106 _ _ _ _ _ _ _ _ _ _ _ _ _ _ w'
 rintro ⟨rfl,hI⟩
 split at h
 ·rename_i hdg
  have:(dig s i || (sgn s i 45 && dig s (i+1)))=true:=by rw [Bool.or_eq_true,Bool.and_eq_true]; exact hdg
  rw [this]
  refine condV (fun _=>?_) (fun hb=>by cases hb)
  obtain ⟨k,hk,rfl,_,_,hnum⟩:=um h (by omega) S
  refine Run.callPure vz vD hI hnum fun w' hI=>?_
  refine r_extract (v:=wo 2 k) rfl ?_
  refine r_extract (v:=.int .i64 (n:Int)) rfl ?_
  refine r_alloc hI aE fun b10 w' hI=>?_
  refine ao hI 1 rfl ag rfl rfl (by simp [Value.oneCell']) fun w' hI=>?_
  refine bH (by omega) ?_
  refine condV (fun hb=>by cases hb) (fun _=>?_)
  refine r_loadW hI 1 ag rfl rfl ?_
  refine ao hI 0 rfl ag rfl rfl (by simp [Value.oneCell']) fun w' hI=>?_
  refine loadV_W hI 0 ag rfl rfl ?_
  exact ⟨_,[],S,rfl,hI.nil,Ext.refl _ _ _,rfl,_,rfl,RdT.nil (by simp [inI]) hk (by decide +kernel) (Nat.zero_le _)⟩
 rename_i hdg
 have:(dig s i || (sgn s i 45 && dig s (i+1)))=false:=by
  rw [Bool.eq_false_iff,ne_eq,Bool.or_eq_true,Bool.and_eq_true]; exact hdg
 rw [this]
 refine condV (fun hb=>by cases hb) (fun _=>?_)
 refine Run.callPure qu qW hI (ne hlt hs S) fun w' hI=>?_
 cases hnm:oN s i with
 | none=>rw [hnm] at h; cases h
 | some q=>
 obtain ⟨name,m⟩:=q
 rw [hnm] at h
 simp only [] at h
 simp only [BJ]
 have hnl:=oW hlt hnm
 refine r_extract (v:=.string (st name)) rfl ?_
 refine r_extract (v:=.int .i64 (m:Int)) rfl ?_
 refine bH (by omega) ?_
 refine condV (fun hb=>by cases hb) (fun _=>?_)
 refine Run.callPure aX aW hI (aT s m 40 S) fun w' hI=>?_
 refine r_not ?_
 split at h
 ·rename_i h40'
  simp only [Option.some.injEq,Prod.mk.injEq] at h
  obtain ⟨rfl,rfl⟩:=h
  rw [h40']
  refine condV (fun _=>?_) (fun hb=>by cases hb)
  refine Run.call0E bg bh hI (bu (st name) (xP hnl.2.2.1) (eq S) (by simp)) fun v I' S2 w'=>?_
  rintro ⟨rfl,cs,rfl,hcs⟩ hE2 hI
  obtain ⟨kv,rfl,_,_,_,a,k,rfl,_⟩:=RdT.iff.1 hcs
  refine ao hI 0 rfl ag rfl rfl (by simp [Value.oneCell']) fun w' hI=>?_
  refine loadV_W hI 0 ag rfl rfl ?_
  exact ⟨_,[],S2,rfl,hI.nil,hE2,rfl,_,rfl,hcs⟩
 ·rename_i h40'
  rw [Bool.not_eq_false] at h40'
  rw [h40']
  refine condV (fun hb=>by cases hb) (fun _=>?_)
  split at h
  ·cases h
  rename_i ts k hts
  simp only [Option.some.injEq,Prod.mk.injEq] at h
  obtain ⟨rfl,rfl⟩:=h
  have hm:=cY h40'
  have hle2:=(cJ g).2.2.2 _ _ _ _ _ _ _ _ hts
  refine bG (a:=m) (b:=1) rfl rfl (by omega) ?_
  refine tm (a:=d) (b:=1) rfl rfl hd0 (by omega) ?_
  refine Run.call0E oM oY hI (hT s (m+1) (d - 1) 41 41 ts k S hts hs (by omega) (by omega)) fun v I' S2 w'=>?_
  rintro ⟨rfl,u,rfl,hu⟩ hE2 hI
  refine r_extract (v:=u) rfl ?_
  refine r_extract (v:=.int .i64 (k:Int)) rfl ?_
  refine bH (by omega) ?_
  refine condV (fun hb=>by cases hb) (fun _=>?_)
  obtain ⟨a,c,rfl,_⟩:=id hu
  refine lD ⟨_,_,_,rfl⟩ ?_
  refine bG (a:=k) (b:=1) rfl rfl (by omega) ?_
  refine ao hI 0 rfl ag rfl rfl (by simp [Value.oneCell']) fun w' hI=>?_
  refine loadV_W hI 0 ag rfl rfl ?_
  exact ⟨_,[],S2,rfl,hI.nil,hE2,rfl,_,rfl,RdT.iff.2 ⟨_,rfl,by simp [inI,T.kind,yr],by simp [inI,T.n,yr],xP hnl.2.2.1,hu⟩⟩
theorem En {f:Nat} (ihR:∀ g,g<f->jB g) (ihP:∀ g,g<f->xu g):jB f:=by
 intro s i d l t n S h hs hi hd hl w hI
 cases f with
 | zero=>simp [dI] at h
 | succ f=>
 refine sk ?_
 unfold qn
 refine r_alloc hI aE fun b8 w' hI=>?_
 have hI:Inv w [] [.blk b8 (.cells #[.int .i64 0,.int .i64 0,.string ⟨#[]⟩,.slice none 0 0] ab)] S w':=hI
 cases l with
 | zero=>
  rw [dI] at h
  refine bY rfl ?_
  refine condV (fun _=>?_) (fun hb=>by cases hb)
  refine Run.call0E wM xc hI (ihP f (by omega) s i d t n S h hs hi hd) fun v I' S2 w'=>?_
  rintro ⟨rfl,cs,rfl,hcs⟩ hE2 hI
  obtain ⟨kv,rfl,_,_,_,a,k,rfl,_⟩:=RdT.iff.1 hcs
  refine r_extract (v:=.agg _) rfl ?_
  refine r_extract (v:=.int .i64 (n:Int)) rfl ?_
  refine ao hI 0 rfl ag rfl rfl (by simp [Value.oneCell']) fun w' hI=>?_
  refine loadV_W hI 0 ag rfl rfl ?_
  exact ⟨_,[],S2,rfl,hI.nil,hE2,rfl,_,rfl,hcs⟩
 | succ l=>
  rw [dI] at h
  split at h
  ·cases h
  rename_i t0 n0 hr
  have hle:=(cJ f).1 _ _ _ _ _ _ hr
  refine bF (by omega) ?_
  refine condV (fun hb=>by cases hb) (fun _=>?_)
  refine tm (a:=l+1) (b:=1) rfl rfl (by omega) (by omega) ?_
  rw [Nat.add_sub_cancel]
  refine Run.call0E cm cg hI (ihR f (by omega) s i d l t0 n0 S hr hs hi hd (by omega)) fun v I' S1 w'=>?_
  rintro ⟨rfl,cs,rfl,hcs⟩ hE1 hI
  obtain ⟨kv,rfl,_,_,_,a,k,rfl,_⟩:=RdT.iff.1 hcs
  refine r_extract (v:=.agg _) rfl ?_
  refine r_extract (v:=.int .i64 (n0:Int)) rfl ?_
  refine r_alloc hI aE fun b10 w' hI=>?_
  refine ao hI 1 rfl ag rfl rfl (by simp [Value.oneCell']) fun w' hI=>?_
  refine ⟨fun a w'=>∃ (f' n':Nat) (t':T) (ds:List Value) (S1:Store),f'<=f/\a=.int .i64 (n':Int)/\n'<=s.length/\zS f' s n' d l t'=some (t,n)/\Ext w.heap.size [] S S1/\RdT S1 ds t'/\Inv w [] [.blk b8 (.cells #[.int .i64 0,.int .i64 0,.string ⟨#[]⟩,.slice none 0 0] ab),.blk b10 (.cells ds.toArray ab)] S1 w',
   fun a _=>s.length+1 - (intOf a).toNat,⟨f,n0,t0,_,S1,Nat.le_refl _,rfl,hle.2,h,hE1,hcs,hI⟩,?_⟩
  clear h hE1 hcs hI hr hle
  intro _ _ _ _ t11 _ _ _ _ _ _ _ _ _ _ _ _ _ _ _ _ _ _ _ _ _ _ _ _ _ _ _ _ _ _ _ _ _ _ _ _ _ _ _ _ _ _ w'
  rintro ⟨f',n',t',ds,S1,hf',rfl,hn',ho,hE,hds,hI⟩
  obtain ⟨kd,rfl,_,_,hts',da,dm,rfl,_⟩:=RdT.iff.1 hds
  cases f' with
  | zero=>simp [zS] at ho
  | succ g=>
  rw [zS] at ho
  refine gJ (by omega) ?_
  refine condV (fun _=>?_) (fun hb=>by cases hb)
  refine Run.callPure Cw Cq hI (AM hs hn' S1) fun w' hI=>?_
  cases hop:opF s n' with
  | none=>
   rw [hop] at ho
   simp only [Option.some.injEq,Prod.mk.injEq] at ho
   obtain ⟨rfl,rfl⟩:=ho
   simp only [opV]
   refine r_extract (v:=.string ⟨#[]⟩) rfl ?_
   refine r_extract (v:=.int .i64 (n':Int)) rfl ?_
   refine ⟨fun b w'=>b=.bool true/\Inv w [] [.blk b8 (.cells #[.int .i64 0,.int .i64 0,.string ⟨#[]⟩,.slice none 0 0] ab),.blk b10 (.cells #[.int .i64 t'.kind,.int .i64 t'.n,.string t'.name,.slice da t'.kids.length dm] ab)] S1 w',?_,?_⟩
   ·refine r_seql ?_
    rw [decide_eq_true rfl]
    repeat (first|refine ac ?_|refine ae (by decide) ?_|refine ad ?_|refine ai ?_|refine ah ?_)
    exact ⟨rfl,hI⟩
   intro t48 _ _ _ _ _ _ _ w'
   rintro ⟨rfl,hI⟩
   refine condV (fun _=>?_) (fun hb=>by cases hb)
   refine r_loadW hI 1 ag rfl rfl ?_
   refine ao hI 0 rfl ag rfl rfl (by simp [Value.oneCell']) fun w' hI=>?_
   refine loadV_W hI 0 ag rfl rfl ?_
   exact ⟨_,[],S1,rfl,hI.nil,hE,rfl,_,rfl,hds⟩
  | some q=>
   obtain ⟨name,after⟩:=q
   rw [hop] at ho
   simp only [] at ho
   simp only [opV]
   have hol:=DI hop
   refine r_extract (v:=.string (st name)) rfl ?_
   refine r_extract (v:=.int .i64 (after:Int)) rfl ?_
   refine ⟨fun b w'=>b=.bool (!decide (aU (st name)=((l+1:Nat):Int)))/\Inv w [] [.blk b8 (.cells #[.int .i64 0,.int .i64 0,.string ⟨#[]⟩,.slice none 0 0] ab),.blk b10 (.cells #[.int .i64 t'.kind,.int .i64 t'.n,.string t'.name,.slice da t'.kids.length dm] ab)] S1 w',?_,?_⟩
   ·refine sB (b:=[]) ?_
    rw [decide_eq_false hol.2.2.2]
    repeat (first|refine ac ?_|refine ae (by decide) ?_|refine ad ?_|refine ai ?_|refine ah ?_)
    refine Run.callPure bU bQ hI (bn _ S1) fun w' hI=>?_
    refine r_neq ?_
    repeat (first|refine ac ?_|refine ae (by decide) ?_|refine ad ?_|refine ai ?_|refine ah ?_)
    exact ⟨rfl,hI⟩
   intro t48 _ _ _ _ _ _ _ w'
   rintro ⟨rfl,hI⟩
   split at ho
   ·rename_i hlv
    rw [decide_eq_true hlv]
    refine condV (fun hb=>by cases hb) (fun _=>?_)
    split at ho
    ·cases ho
    rename_i r e hr
    have hle:=(cJ g).1 _ _ _ _ _ _ hr
    refine tm (a:=l+1) (b:=1) rfl rfl (by omega) (by omega) ?_
    rw [Nat.add_sub_cancel]
    refine Run.call0E cm cg hI (ihR g (by omega) s after d l r e S1 hr hs (by omega) hd (by omega)) fun v I' S2 w'=>?_
    rintro ⟨rfl,es,rfl,hes⟩ hE2 hI
    obtain ⟨ke,rfl,_,_,_,ea,em,rfl,_⟩:=RdT.iff.1 hes
    refine r_extract (v:=.agg _) rfl ?_
    refine r_extract (v:=.int .i64 (e:Int)) rfl ?_
    refine r_alloc hI aE fun b14 w' hI=>?_
    refine ao hI 2 rfl ag rfl rfl (by simp [Value.oneCell']) fun w' hI=>?_
    refine bH (by omega) ?_
    refine condV (fun hb=>by cases hb) (fun _=>?_)
    refine r_loadW hI 1 ag rfl rfl ?_
    refine r_loadW hI 2 ag rfl rfl ?_
    refine mr (v:=fun b=>.slice (some ⟨b,0,none⟩) 2 2) (o:=.cells #[.int .i64 t'.kind,.int .i64 t'.n,.string t'.name,.slice da t'.kids.length dm,.int .i64 r.kind,.int .i64 r.n,.string r.name,.slice ea r.kids.length em] ab) hI (by kernel_rfl) fun b20 w' hI=>?_
    obtain ⟨S3,hI,hE3,hS3⟩:=Inv.pub1 (A:=[_,_,_]) hI
    have hks:=Bq hS3 (RdT.mono (hE2.1.trans hE3.1) hds) (RdT.mono hE3.1 hes)
    refine Run.call0E bg bh hI (bu (st name) (xP hol.2.2.1) hks (by simp)) fun v I' S4 w'=>?_
    rintro ⟨rfl,gs,rfl,hgs⟩ hE4 hI
    obtain ⟨kg,rfl,_,_,_,ga,gm,rfl,_⟩:=RdT.iff.1 hgs
    have hE':=((hE.trans hE2).trans hE3).trans hE4
    refine ao hI 1 rfl ag rfl rfl (by simp [Value.oneCell']) fun w' hI=>?_
    split at ho
    ·rename_i hl2
     subst hl2
     simp only [Option.some.injEq,Prod.mk.injEq] at ho
     obtain ⟨rfl,rfl⟩:=ho
     refine bY rfl ?_
     refine condV (fun _=>?_) (fun hb=>by cases hb)
     refine r_loadW hI 1 ag rfl rfl ?_
     refine ao hI 0 rfl ag rfl rfl (by simp [Value.oneCell']) fun w' hI=>?_
     refine loadV_W hI 0 ag rfl rfl ?_
     exact ⟨_,[],S4,rfl,hI.nil,hE',rfl,_,rfl,hgs⟩
    ·refine bF (by omega) ?_
     refine condV (fun hb=>by cases hb) (fun _=>?_)
     refine ⟨⟨g,e,_,_,S4,by omega,rfl,hle.2,ho,hE',hgs,hI.pick [true,true,false]⟩,?_⟩
     simp only [intOf,Int.toNat_natCast]
     omega
   ·rename_i hlv
    rw [decide_eq_false hlv]
    simp only [Option.some.injEq,Prod.mk.injEq] at ho
    obtain ⟨rfl,rfl⟩:=ho
    refine condV (fun _=>?_) (fun hb=>by cases hb)
    refine r_loadW hI 1 ag rfl rfl ?_
    refine ao hI 0 rfl ag rfl rfl (by simp [Value.oneCell']) fun w' hI=>?_
    refine loadV_W hI 0 ag rfl rfl ?_
    exact ⟨_,[],S1,rfl,hI.nil,hE,rfl,_,rfl,hds⟩
theorem DX:∀ F f,f<F->jB f/\xu f/\oC f
 | 0,f,h=>by omega
 | F+1,f,h=>by
  have ih:=DX F
  have hR:jB f:=En (fun g hg=>(ih g (by omega)).1) (fun g hg=>(ih g (by omega)).2.1)
  have hT:oC f:=Dg fun g hg=>(ih g (by omega)).1
  exact ⟨hR,Df (fun g hg=>(ih g (by omega)).1) (fun g hg=>(ih g (by omega)).2.2),hT⟩
theorem wq (f:Nat):jB f:=(DX (f+1) f (by omega)).1
end

end Go.Proofs.YtmnnpgdeecnfpaaGreat

/- The source of random numbers: spec.l18Open, pick, of, num. (printed by gen_rd.py) -/
namespace Go.Proofs.YtmnnpgdeecnfpaaGreat
open Go Go.RowKit

def eV (cs:List Value) (n:Nat):Prop:=cs=[.int .u8 (n:Int)]/\n<256
abbrev rdI (br:Nat) (sl:Value) (p:Nat):Item:=.blk br (.cells #[sl,.int .i64 (p:Int)] ze)
abbrev rdP (br:Nat):Value:=.pointer (some ⟨br,0,none⟩)
section
variable {P:Program} {w:World} {K:Value->World->Prop}
theorem AA {T:TypeId} {cx cy:Bool} {x y:Int} {a b:Nat} (hx:x=a) (hy:y=b) (hb:0<b) (hk:K (.int .i64 ((a % b:Nat):Int)) w):Run P (sBin .rem T cx cy (.int .i64 x) (.int .i64 y)) w K:=by
 subst hx hy
 exact Ax hb hk
theorem AJ {T:TypeId} {cx cy:Bool} {x y:Int} {a b:Nat} (hx:x=a) (hy:y=b) (hb:0<b) (ha:a<=9223372036854775807) (hk:K (.int .i64 ((a / b:Nat):Int)) w):Run P (sBin .quo T cx cy (.int .i64 x) (.int .i64 y)) w K:=by
 subst hx hy
 exact Fr hb ha hk
theorem EZ {T:TypeId} {cx cy:Bool} {x y:Int} {a b:Nat} (hx:x=a) (hy:y=b) (ha:a<4611686018427387904) (hb:b<4611686018427387904) (hk:K (.int .i64 ((a ^^^ b:Nat):Int)) w):Run P (sBin .xor T cx cy (.int .i64 x) (.int .i64 y)) w K:=by
 subst hx hy
 exact EV ha hb hk
end
theorem RdSl.u8 {S:Store} {sl:Value} {ys:List Nat} (h:RdSl S 1 eV sl ys) (h0:0<ys.length):∃ b o cap c E fz,sl=.slice (some ⟨b,o,none⟩) ys.length cap/\S b=some (.cells c E fz)/\
  ∀ i,i<ys.length->∃ y:Nat,c[o+i * 1]?=some (.int .u8 (y:Int))/\y<256:=by
 obtain ⟨a,cap,rfl,hl,hc,h⟩:=h
 rcases h with rfl|⟨b,o,c,E,fz,rfl,hS,hR⟩
 ·simp at h0
 ·refine ⟨b,o,cap,c,E,fz,rfl,hS,fun i hi=>?_⟩
  obtain ⟨h1,h2⟩:=hR i hi
  exact ⟨ys[i],cellsAt_get h1 0 _ rfl,h2⟩
section
attribute [local irreducible] Run CondV GuardV LoadV
abbrev Fu (S:Store) (br:Nat) (sl:Value) (p n:Nat):Value->List Item->Store->Prop:=fun v I' S'=>S'=S/\I'=[rdI br sl (p+1)]/\∃ k:Nat,k<n/\v=.int .i64 (k:Int)
theorem ba {ys:List Nat} {S:Store} {sl:Value} {br p n:Nat} (h:RdSl S 1 eV sl ys) (hp:p<=1000000000000) (hn:0<n):Tri Tryz.prog tY [rdP br,.int .i64 (n:Int)] [rdI br sl p] S (Fu S br sl p n):=by
 intro w hI
 refine lY ?_
 unfold gX
 obtain ⟨X,hX⟩:∃ X,X=feet [rdI br sl p]:=⟨_,rfl⟩
 rw [<- hX] at hI ⊢
 have hsl:∃ a m cap,sl=.slice a m cap/\m=ys.length:=by
  obtain ⟨a,cap,e,_⟩:=h
  exact ⟨a,_,cap,e,rfl⟩
 refine r_nilCheck ?_
 refine r_field kj ?_
 refine r_loadL hI 0 aC rfl rfl ?_
 refine r_add (by omega) ?_
 refine r_nilCheck ?_
 refine r_field kj ?_
 refine r_store hI 0 (n:=1) rfl (by decide +kernel) rfl (by simp) (by simp [Value.cells,Value.oneCell']) fun w' hI=>?_
 have hI:Inv w X [rdI br sl (p+1)] S w':=hI
 have hN:∃ N:Nat,N=ys.length:=⟨_,rfl⟩
 refine ⟨fun t w'=>t=.bool (decide (ys.length=0))/\Inv w X [rdI br sl (p+1)] S w',?_,?_⟩
 ·refine bH (by omega) ?_
  refine guardV (fun _=>?_) (fun hb=>by simp at hb)
  refine r_nilCheck ?_
  refine r_field bO ?_
  refine r_loadL hI 0 cQ rfl rfl ?_
  refine r_lenSl h bw ?_
  refine r_eql ?_
  refine r_pick ?_
  refine ⟨?_,hI⟩
  simp
 intro t24 _ _ _ _ _ _ _ _ _ w'
 rintro ⟨rfl,hI⟩
 refine condP (fun _=>⟨_,_,_,rfl,hI,Ext.refl _ _ _,rfl,rfl,0,hn,rfl⟩) (fun h0=>?_)
 have h0:0<ys.length:=by omega
 obtain ⟨b,o,cap,c,E,fz,rfl,hS,hc⟩:=h.u8 h0
 refine r_nilCheck ?_
 refine r_field kj ?_
 refine r_loadL hI 0 aC rfl rfl ?_
 refine r_sub (by omega) ?_
 have ep:((p+1:Nat):Int) - 1=(p:Int):=by omega
 rw [ep]
 refine r_nilCheck ?_
 refine r_field bO ?_
 refine r_loadL hI 0 cQ rfl rfl ?_
 refine r_len bw ?_
 refine r_lss ?_
 refine condP (fun hlt=>?_) (fun _=>?_)
 ·have hlt':p<ys.length:=by omega
  obtain ⟨y,hy,hy2⟩:=hc p hlt'
  refine r_nilCheck ?_
  refine r_field bO ?_
  refine r_loadL hI 0 cQ rfl rfl ?_
  refine r_indexAddr bw hlt' ?_
  refine r_load tt ((hI.cellS hS).trans hy) ?_
  refine jL cf db (IntWalk.i64_in _ (by omega)) ?_
  refine Ax hn ?_
  exact ⟨_,_,_,rfl,hI,Ext.refl _ _ _,rfl,rfl,y % n,Nat.mod_lt _ hn,rfl⟩
 ·obtain ⟨i1,hd1⟩:∃ i1,i1=p % ys.length:=⟨_,rfl⟩
  obtain ⟨i2,hd2⟩:∃ i2,i2=(p * 7+3) % ys.length:=⟨_,rfl⟩
  obtain ⟨q,hdq⟩:∃ q,q=p / ys.length:=⟨_,rfl⟩
  have hi1:i1<ys.length:=by rw [hd1]; exact Nat.mod_lt _ h0
  have hi2:i2<ys.length:=by rw [hd2]; exact Nat.mod_lt _ h0
  have hq:q<=p:=by rw [hdq]; exact Nat.div_le_self ..
  obtain ⟨y1,hv1,hy1⟩:=hc i1 hi1
  obtain ⟨y2,hv2,hy2⟩:=hc i2 hi2
  skip
  refine ⟨fun D x6 x91 x90 x89 x88 x87 x86 x85 x84 x83 x82 x81 x80 x79 x78 x77 x76 x75 x74 x73 x72 x71 x70 x69 x68 x67 x66 x65 x64 x63 x62 x61 x60 x59 x58 x57 x56 x55 x54 x53 x52 x51 x50 x49 x48 x47 w_=>(D 0=true->x47=.pointer (some ⟨br,0,none⟩))/\(D 1=true->x48=.pointer (some ⟨br,0,none⟩))/\(D 2=true->x49=.pointer (some ⟨br,0,none⟩))/\(D 3=true->x50=.slice (some ⟨b,o,none⟩) ys.length cap)/\(D 4=true->x51=.int .i64 (p:Int))/\(D 5=true->x52=.pointer (some ⟨br,0,none⟩))/\(D 6=true->x53=.pointer (some ⟨br,0,none⟩))/\(D 7=true->x54=.pointer (some ⟨br,0,none⟩))/\(D 8=true->x55=.slice (some ⟨b,o,none⟩) ys.length cap)/\(D 9=true->x56=.int .i64 (ys.length:Int))/\(D 10=true->x57=.int .i64 (((i1:Nat):Int)))/\(D 11=true->x58=.pointer (some ⟨b,o+i1 * 1,none⟩))/\(D 12=true->x59=.int .u8 ((y1:Nat):Int))/\(D 13=true->x60=.int .i64 (((y1:Nat):Int)))/\(D 14=true->x61=.int .i64 ((((y1:Nat):Int) * 131)))/\(D 15=true->x62=.pointer (some ⟨br,0,none⟩))/\(D 16=true->x63=.pointer (some ⟨br,0,none⟩))/\(D 17=true->x64=.pointer (some ⟨br,0,none⟩))/\(D 18=true->x65=.slice (some ⟨b,o,none⟩) ys.length cap)/\(D 19=true->x66=.int .i64 (p:Int))/\(D 20=true->x67=.int .i64 (((p:Int) * 7)))/\(D 21=true->x68=.int .i64 ((((p:Int) * 7)+3)))/\(D 22=true->x69=.pointer (some ⟨br,0,none⟩))/\(D 23=true->x70=.pointer (some ⟨br,0,none⟩))/\(D 24=true->x71=.pointer (some ⟨br,0,none⟩))/\(D 25=true->x72=.slice (some ⟨b,o,none⟩) ys.length cap)/\(D 26=true->x73=.int .i64 (ys.length:Int))/\(D 27=true->x74=.int .i64 (((i2:Nat):Int)))/\(D 28=true->x75=.pointer (some ⟨b,o+i2 * 1,none⟩))/\(D 29=true->x76=.int .u8 ((y2:Nat):Int))/\(D 30=true->x77=.int .i64 (((y2:Nat):Int)))/\(D 31=true->x78=.int .i64 ((((y2:Nat):Int) * 1117)))/\(D 32=true->x79=.int .i64 (((((y1:Nat):Int) * 131)+(((y2:Nat):Int) * 1117))))/\(D 33=true->x80=.int .i64 (p:Int))/\(D 34=true->x81=.int .i64 (((p:Int) * 29)))/\(D 35=true->x82=.int .i64 ((((((y1:Nat):Int) * 131)+(((y2:Nat):Int) * 1117))+((p:Int) * 29))))/\(D 36=true->x83=.int .i64 (p:Int))/\(D 37=true->x84=.pointer (some ⟨br,0,none⟩))/\(D 38=true->x85=.pointer (some ⟨br,0,none⟩))/\(D 39=true->x86=.pointer (some ⟨br,0,none⟩))/\(D 40=true->x87=.slice (some ⟨b,o,none⟩) ys.length cap)/\(D 41=true->x88=.int .i64 (ys.length:Int))/\(D 42=true->x89=.int .i64 (((q:Nat):Int)))/\(D 43=true->x90=.int .i64 ((((q:Nat):Int) * 53)))/\(D 44=true->x91=.int .i64 (((((((y1:Nat):Int) * 131)+(((y2:Nat):Int) * 1117))+((p:Int) * 29))+(((q:Nat):Int) * 53))))/\(D 45=true->x6=.int .i64 (((((((y1:Nat):Int) * 131)+(((y2:Nat):Int) * 1117))+((p:Int) * 29))+(((q:Nat):Int) * 53))))/\Inv w X [rdI br (.slice (some ⟨b,o,none⟩) ys.length cap) (p+1)] S w_,⟨fun h=>Bool.noConfusion h,fun h=>Bool.noConfusion h,fun h=>Bool.noConfusion h,fun h=>Bool.noConfusion h,fun h=>Bool.noConfusion h,fun h=>Bool.noConfusion h,fun h=>Bool.noConfusion h,fun h=>Bool.noConfusion h,fun h=>Bool.noConfusion h,fun h=>Bool.noConfusion h,fun h=>Bool.noConfusion h,fun h=>Bool.noConfusion h,fun h=>Bool.noConfusion h,fun h=>Bool.noConfusion h,fun h=>Bool.noConfusion h,fun h=>Bool.noConfusion h,fun h=>Bool.noConfusion h,fun h=>Bool.noConfusion h,fun h=>Bool.noConfusion h,fun h=>Bool.noConfusion h,fun h=>Bool.noConfusion h,fun h=>Bool.noConfusion h,fun h=>Bool.noConfusion h,fun h=>Bool.noConfusion h,fun h=>Bool.noConfusion h,fun h=>Bool.noConfusion h,fun h=>Bool.noConfusion h,fun h=>Bool.noConfusion h,fun h=>Bool.noConfusion h,fun h=>Bool.noConfusion h,fun h=>Bool.noConfusion h,fun h=>Bool.noConfusion h,fun h=>Bool.noConfusion h,fun h=>Bool.noConfusion h,fun h=>Bool.noConfusion h,fun h=>Bool.noConfusion h,fun h=>Bool.noConfusion h,fun h=>Bool.noConfusion h,fun h=>Bool.noConfusion h,fun h=>Bool.noConfusion h,fun h=>Bool.noConfusion h,fun h=>Bool.noConfusion h,fun h=>Bool.noConfusion h,fun h=>Bool.noConfusion h,fun h=>Bool.noConfusion h,fun h=>Bool.noConfusion h,hI.draw⟩,⟨?_,?_,?_,?_,?_,?_,?_,?_,?_,?_,?_,?_,?_,?_,?_,?_,?_,?_,?_,?_,?_,?_,?_,?_,?_,?_,?_,?_,?_,?_,?_,?_,?_,?_,?_,?_,?_,?_,?_,?_,?_,?_,?_,?_,?_,?_,trivial⟩,?_⟩
  ·intro D hD_  x6 x91 x90 x89 x88 x87 x86 x85 x84 x83 x82 x81 x80 x79 x78 x77 x76 x75 x74 x73 x72 x71 x70 x69 x68 x67 x66 x65 x64 x63 x62 x61 x60 x59 x58 x57 x56 x55 x54 x53 x52 x51 x50 x49 x48 x47 w_
   rintro ⟨h0_,h1_,h2_,h3_,h4_,h5_,h6_,h7_,h8_,h9_,h10_,h11_,h12_,h13_,h14_,h15_,h16_,h17_,h18_,h19_,h20_,h21_,h22_,h23_,h24_,h25_,h26_,h27_,h28_,h29_,h30_,h31_,h32_,h33_,h34_,h35_,h36_,h37_,h38_,h39_,h40_,h41_,h42_,h43_,h44_,h45_,hI⟩
   exact ⟨fun _=>rfl,h1_,h2_,h3_,h4_,h5_,h6_,h7_,h8_,h9_,h10_,h11_,h12_,h13_,h14_,h15_,h16_,h17_,h18_,h19_,h20_,h21_,h22_,h23_,h24_,h25_,h26_,h27_,h28_,h29_,h30_,h31_,h32_,h33_,h34_,h35_,h36_,h37_,h38_,h39_,h40_,h41_,h42_,h43_,h44_,h45_,hI⟩
  ·intro D hD_ d0_0 x6 x91 x90 x89 x88 x87 x86 x85 x84 x83 x82 x81 x80 x79 x78 x77 x76 x75 x74 x73 x72 x71 x70 x69 x68 x67 x66 x65 x64 x63 x62 x61 x60 x59 x58 x57 x56 x55 x54 x53 x52 x51 x50 x49 x48 x47 w_
   rintro ⟨h0_,h1_,h2_,h3_,h4_,h5_,h6_,h7_,h8_,h9_,h10_,h11_,h12_,h13_,h14_,h15_,h16_,h17_,h18_,h19_,h20_,h21_,h22_,h23_,h24_,h25_,h26_,h27_,h28_,h29_,h30_,h31_,h32_,h33_,h34_,h35_,h36_,h37_,h38_,h39_,h40_,h41_,h42_,h43_,h44_,h45_,hI⟩
   obtain rfl:=h0_ d0_0
   refine r_nilCheck ?_
   exact ⟨h0_,fun _=>rfl,h2_,h3_,h4_,h5_,h6_,h7_,h8_,h9_,h10_,h11_,h12_,h13_,h14_,h15_,h16_,h17_,h18_,h19_,h20_,h21_,h22_,h23_,h24_,h25_,h26_,h27_,h28_,h29_,h30_,h31_,h32_,h33_,h34_,h35_,h36_,h37_,h38_,h39_,h40_,h41_,h42_,h43_,h44_,h45_,hI⟩
  ·intro D hD_ d1_0 x6 x91 x90 x89 x88 x87 x86 x85 x84 x83 x82 x81 x80 x79 x78 x77 x76 x75 x74 x73 x72 x71 x70 x69 x68 x67 x66 x65 x64 x63 x62 x61 x60 x59 x58 x57 x56 x55 x54 x53 x52 x51 x50 x49 x48 x47 w_
   rintro ⟨h0_,h1_,h2_,h3_,h4_,h5_,h6_,h7_,h8_,h9_,h10_,h11_,h12_,h13_,h14_,h15_,h16_,h17_,h18_,h19_,h20_,h21_,h22_,h23_,h24_,h25_,h26_,h27_,h28_,h29_,h30_,h31_,h32_,h33_,h34_,h35_,h36_,h37_,h38_,h39_,h40_,h41_,h42_,h43_,h44_,h45_,hI⟩
   obtain rfl:=h1_ d1_0
   refine r_field bO ?_
   exact ⟨h0_,h1_,fun _=>rfl,h3_,h4_,h5_,h6_,h7_,h8_,h9_,h10_,h11_,h12_,h13_,h14_,h15_,h16_,h17_,h18_,h19_,h20_,h21_,h22_,h23_,h24_,h25_,h26_,h27_,h28_,h29_,h30_,h31_,h32_,h33_,h34_,h35_,h36_,h37_,h38_,h39_,h40_,h41_,h42_,h43_,h44_,h45_,hI⟩
  ·intro D hD_ d2_0 x6 x91 x90 x89 x88 x87 x86 x85 x84 x83 x82 x81 x80 x79 x78 x77 x76 x75 x74 x73 x72 x71 x70 x69 x68 x67 x66 x65 x64 x63 x62 x61 x60 x59 x58 x57 x56 x55 x54 x53 x52 x51 x50 x49 x48 x47 w_
   rintro ⟨h0_,h1_,h2_,h3_,h4_,h5_,h6_,h7_,h8_,h9_,h10_,h11_,h12_,h13_,h14_,h15_,h16_,h17_,h18_,h19_,h20_,h21_,h22_,h23_,h24_,h25_,h26_,h27_,h28_,h29_,h30_,h31_,h32_,h33_,h34_,h35_,h36_,h37_,h38_,h39_,h40_,h41_,h42_,h43_,h44_,h45_,hI⟩
   obtain rfl:=h2_ d2_0
   refine r_loadL hI 0 cQ rfl rfl ?_
   exact ⟨h0_,h1_,h2_,fun _=>rfl,h4_,h5_,h6_,h7_,h8_,h9_,h10_,h11_,h12_,h13_,h14_,h15_,h16_,h17_,h18_,h19_,h20_,h21_,h22_,h23_,h24_,h25_,h26_,h27_,h28_,h29_,h30_,h31_,h32_,h33_,h34_,h35_,h36_,h37_,h38_,h39_,h40_,h41_,h42_,h43_,h44_,h45_,hI⟩
  ·intro D hD_  x6 x91 x90 x89 x88 x87 x86 x85 x84 x83 x82 x81 x80 x79 x78 x77 x76 x75 x74 x73 x72 x71 x70 x69 x68 x67 x66 x65 x64 x63 x62 x61 x60 x59 x58 x57 x56 x55 x54 x53 x52 x51 x50 x49 x48 x47 w_
   rintro ⟨h0_,h1_,h2_,h3_,h4_,h5_,h6_,h7_,h8_,h9_,h10_,h11_,h12_,h13_,h14_,h15_,h16_,h17_,h18_,h19_,h20_,h21_,h22_,h23_,h24_,h25_,h26_,h27_,h28_,h29_,h30_,h31_,h32_,h33_,h34_,h35_,h36_,h37_,h38_,h39_,h40_,h41_,h42_,h43_,h44_,h45_,hI⟩
   exact ⟨h0_,h1_,h2_,h3_,fun _=>rfl,h5_,h6_,h7_,h8_,h9_,h10_,h11_,h12_,h13_,h14_,h15_,h16_,h17_,h18_,h19_,h20_,h21_,h22_,h23_,h24_,h25_,h26_,h27_,h28_,h29_,h30_,h31_,h32_,h33_,h34_,h35_,h36_,h37_,h38_,h39_,h40_,h41_,h42_,h43_,h44_,h45_,hI⟩
  ·intro D hD_  x6 x91 x90 x89 x88 x87 x86 x85 x84 x83 x82 x81 x80 x79 x78 x77 x76 x75 x74 x73 x72 x71 x70 x69 x68 x67 x66 x65 x64 x63 x62 x61 x60 x59 x58 x57 x56 x55 x54 x53 x52 x51 x50 x49 x48 x47 w_
   rintro ⟨h0_,h1_,h2_,h3_,h4_,h5_,h6_,h7_,h8_,h9_,h10_,h11_,h12_,h13_,h14_,h15_,h16_,h17_,h18_,h19_,h20_,h21_,h22_,h23_,h24_,h25_,h26_,h27_,h28_,h29_,h30_,h31_,h32_,h33_,h34_,h35_,h36_,h37_,h38_,h39_,h40_,h41_,h42_,h43_,h44_,h45_,hI⟩
   exact ⟨h0_,h1_,h2_,h3_,h4_,fun _=>rfl,h6_,h7_,h8_,h9_,h10_,h11_,h12_,h13_,h14_,h15_,h16_,h17_,h18_,h19_,h20_,h21_,h22_,h23_,h24_,h25_,h26_,h27_,h28_,h29_,h30_,h31_,h32_,h33_,h34_,h35_,h36_,h37_,h38_,h39_,h40_,h41_,h42_,h43_,h44_,h45_,hI⟩
  ·intro D hD_ d5_0 x6 x91 x90 x89 x88 x87 x86 x85 x84 x83 x82 x81 x80 x79 x78 x77 x76 x75 x74 x73 x72 x71 x70 x69 x68 x67 x66 x65 x64 x63 x62 x61 x60 x59 x58 x57 x56 x55 x54 x53 x52 x51 x50 x49 x48 x47 w_
   rintro ⟨h0_,h1_,h2_,h3_,h4_,h5_,h6_,h7_,h8_,h9_,h10_,h11_,h12_,h13_,h14_,h15_,h16_,h17_,h18_,h19_,h20_,h21_,h22_,h23_,h24_,h25_,h26_,h27_,h28_,h29_,h30_,h31_,h32_,h33_,h34_,h35_,h36_,h37_,h38_,h39_,h40_,h41_,h42_,h43_,h44_,h45_,hI⟩
   obtain rfl:=h5_ d5_0
   refine r_nilCheck ?_
   exact ⟨h0_,h1_,h2_,h3_,h4_,h5_,fun _=>rfl,h7_,h8_,h9_,h10_,h11_,h12_,h13_,h14_,h15_,h16_,h17_,h18_,h19_,h20_,h21_,h22_,h23_,h24_,h25_,h26_,h27_,h28_,h29_,h30_,h31_,h32_,h33_,h34_,h35_,h36_,h37_,h38_,h39_,h40_,h41_,h42_,h43_,h44_,h45_,hI⟩
  ·intro D hD_ d6_0 x6 x91 x90 x89 x88 x87 x86 x85 x84 x83 x82 x81 x80 x79 x78 x77 x76 x75 x74 x73 x72 x71 x70 x69 x68 x67 x66 x65 x64 x63 x62 x61 x60 x59 x58 x57 x56 x55 x54 x53 x52 x51 x50 x49 x48 x47 w_
   rintro ⟨h0_,h1_,h2_,h3_,h4_,h5_,h6_,h7_,h8_,h9_,h10_,h11_,h12_,h13_,h14_,h15_,h16_,h17_,h18_,h19_,h20_,h21_,h22_,h23_,h24_,h25_,h26_,h27_,h28_,h29_,h30_,h31_,h32_,h33_,h34_,h35_,h36_,h37_,h38_,h39_,h40_,h41_,h42_,h43_,h44_,h45_,hI⟩
   obtain rfl:=h6_ d6_0
   refine r_field bO ?_
   exact ⟨h0_,h1_,h2_,h3_,h4_,h5_,h6_,fun _=>rfl,h8_,h9_,h10_,h11_,h12_,h13_,h14_,h15_,h16_,h17_,h18_,h19_,h20_,h21_,h22_,h23_,h24_,h25_,h26_,h27_,h28_,h29_,h30_,h31_,h32_,h33_,h34_,h35_,h36_,h37_,h38_,h39_,h40_,h41_,h42_,h43_,h44_,h45_,hI⟩
  ·intro D hD_ d7_0 x6 x91 x90 x89 x88 x87 x86 x85 x84 x83 x82 x81 x80 x79 x78 x77 x76 x75 x74 x73 x72 x71 x70 x69 x68 x67 x66 x65 x64 x63 x62 x61 x60 x59 x58 x57 x56 x55 x54 x53 x52 x51 x50 x49 x48 x47 w_
   rintro ⟨h0_,h1_,h2_,h3_,h4_,h5_,h6_,h7_,h8_,h9_,h10_,h11_,h12_,h13_,h14_,h15_,h16_,h17_,h18_,h19_,h20_,h21_,h22_,h23_,h24_,h25_,h26_,h27_,h28_,h29_,h30_,h31_,h32_,h33_,h34_,h35_,h36_,h37_,h38_,h39_,h40_,h41_,h42_,h43_,h44_,h45_,hI⟩
   obtain rfl:=h7_ d7_0
   refine r_loadL hI 0 cQ rfl rfl ?_
   exact ⟨h0_,h1_,h2_,h3_,h4_,h5_,h6_,h7_,fun _=>rfl,h9_,h10_,h11_,h12_,h13_,h14_,h15_,h16_,h17_,h18_,h19_,h20_,h21_,h22_,h23_,h24_,h25_,h26_,h27_,h28_,h29_,h30_,h31_,h32_,h33_,h34_,h35_,h36_,h37_,h38_,h39_,h40_,h41_,h42_,h43_,h44_,h45_,hI⟩
  ·intro D hD_ d8_0 x6 x91 x90 x89 x88 x87 x86 x85 x84 x83 x82 x81 x80 x79 x78 x77 x76 x75 x74 x73 x72 x71 x70 x69 x68 x67 x66 x65 x64 x63 x62 x61 x60 x59 x58 x57 x56 x55 x54 x53 x52 x51 x50 x49 x48 x47 w_
   rintro ⟨h0_,h1_,h2_,h3_,h4_,h5_,h6_,h7_,h8_,h9_,h10_,h11_,h12_,h13_,h14_,h15_,h16_,h17_,h18_,h19_,h20_,h21_,h22_,h23_,h24_,h25_,h26_,h27_,h28_,h29_,h30_,h31_,h32_,h33_,h34_,h35_,h36_,h37_,h38_,h39_,h40_,h41_,h42_,h43_,h44_,h45_,hI⟩
   obtain rfl:=h8_ d8_0
   refine r_len bw ?_
   exact ⟨h0_,h1_,h2_,h3_,h4_,h5_,h6_,h7_,h8_,fun _=>rfl,h10_,h11_,h12_,h13_,h14_,h15_,h16_,h17_,h18_,h19_,h20_,h21_,h22_,h23_,h24_,h25_,h26_,h27_,h28_,h29_,h30_,h31_,h32_,h33_,h34_,h35_,h36_,h37_,h38_,h39_,h40_,h41_,h42_,h43_,h44_,h45_,hI⟩
  ·intro D hD_ d4_0 d9_1 x6 x91 x90 x89 x88 x87 x86 x85 x84 x83 x82 x81 x80 x79 x78 x77 x76 x75 x74 x73 x72 x71 x70 x69 x68 x67 x66 x65 x64 x63 x62 x61 x60 x59 x58 x57 x56 x55 x54 x53 x52 x51 x50 x49 x48 x47 w_
   rintro ⟨h0_,h1_,h2_,h3_,h4_,h5_,h6_,h7_,h8_,h9_,h10_,h11_,h12_,h13_,h14_,h15_,h16_,h17_,h18_,h19_,h20_,h21_,h22_,h23_,h24_,h25_,h26_,h27_,h28_,h29_,h30_,h31_,h32_,h33_,h34_,h35_,h36_,h37_,h38_,h39_,h40_,h41_,h42_,h43_,h44_,h45_,hI⟩
   obtain rfl:=h4_ d4_0
   obtain rfl:=h9_ d9_1
   refine AA (a:=p) (b:=ys.length) (by omega) rfl h0 ?_; rw [<- hd1]
   exact ⟨h0_,h1_,h2_,h3_,h4_,h5_,h6_,h7_,h8_,h9_,fun _=>rfl,h11_,h12_,h13_,h14_,h15_,h16_,h17_,h18_,h19_,h20_,h21_,h22_,h23_,h24_,h25_,h26_,h27_,h28_,h29_,h30_,h31_,h32_,h33_,h34_,h35_,h36_,h37_,h38_,h39_,h40_,h41_,h42_,h43_,h44_,h45_,hI⟩
  ·intro D hD_ d3_0 d10_1 x6 x91 x90 x89 x88 x87 x86 x85 x84 x83 x82 x81 x80 x79 x78 x77 x76 x75 x74 x73 x72 x71 x70 x69 x68 x67 x66 x65 x64 x63 x62 x61 x60 x59 x58 x57 x56 x55 x54 x53 x52 x51 x50 x49 x48 x47 w_
   rintro ⟨h0_,h1_,h2_,h3_,h4_,h5_,h6_,h7_,h8_,h9_,h10_,h11_,h12_,h13_,h14_,h15_,h16_,h17_,h18_,h19_,h20_,h21_,h22_,h23_,h24_,h25_,h26_,h27_,h28_,h29_,h30_,h31_,h32_,h33_,h34_,h35_,h36_,h37_,h38_,h39_,h40_,h41_,h42_,h43_,h44_,h45_,hI⟩
   obtain rfl:=h3_ d3_0
   obtain rfl:=h10_ d10_1
   refine r_indexAddr bw hi1 ?_
   exact ⟨h0_,h1_,h2_,h3_,h4_,h5_,h6_,h7_,h8_,h9_,h10_,fun _=>rfl,h12_,h13_,h14_,h15_,h16_,h17_,h18_,h19_,h20_,h21_,h22_,h23_,h24_,h25_,h26_,h27_,h28_,h29_,h30_,h31_,h32_,h33_,h34_,h35_,h36_,h37_,h38_,h39_,h40_,h41_,h42_,h43_,h44_,h45_,hI⟩
  ·intro D hD_ d11_0 x6 x91 x90 x89 x88 x87 x86 x85 x84 x83 x82 x81 x80 x79 x78 x77 x76 x75 x74 x73 x72 x71 x70 x69 x68 x67 x66 x65 x64 x63 x62 x61 x60 x59 x58 x57 x56 x55 x54 x53 x52 x51 x50 x49 x48 x47 w_
   rintro ⟨h0_,h1_,h2_,h3_,h4_,h5_,h6_,h7_,h8_,h9_,h10_,h11_,h12_,h13_,h14_,h15_,h16_,h17_,h18_,h19_,h20_,h21_,h22_,h23_,h24_,h25_,h26_,h27_,h28_,h29_,h30_,h31_,h32_,h33_,h34_,h35_,h36_,h37_,h38_,h39_,h40_,h41_,h42_,h43_,h44_,h45_,hI⟩
   obtain rfl:=h11_ d11_0
   refine r_load tt ((hI.cellS hS).trans hv1) ?_
   exact ⟨h0_,h1_,h2_,h3_,h4_,h5_,h6_,h7_,h8_,h9_,h10_,h11_,fun _=>rfl,h13_,h14_,h15_,h16_,h17_,h18_,h19_,h20_,h21_,h22_,h23_,h24_,h25_,h26_,h27_,h28_,h29_,h30_,h31_,h32_,h33_,h34_,h35_,h36_,h37_,h38_,h39_,h40_,h41_,h42_,h43_,h44_,h45_,hI⟩
  ·intro D hD_ d12_0 x6 x91 x90 x89 x88 x87 x86 x85 x84 x83 x82 x81 x80 x79 x78 x77 x76 x75 x74 x73 x72 x71 x70 x69 x68 x67 x66 x65 x64 x63 x62 x61 x60 x59 x58 x57 x56 x55 x54 x53 x52 x51 x50 x49 x48 x47 w_
   rintro ⟨h0_,h1_,h2_,h3_,h4_,h5_,h6_,h7_,h8_,h9_,h10_,h11_,h12_,h13_,h14_,h15_,h16_,h17_,h18_,h19_,h20_,h21_,h22_,h23_,h24_,h25_,h26_,h27_,h28_,h29_,h30_,h31_,h32_,h33_,h34_,h35_,h36_,h37_,h38_,h39_,h40_,h41_,h42_,h43_,h44_,h45_,hI⟩
   obtain rfl:=h12_ d12_0
   refine jL cf db (IntWalk.i64_in _ (by omega)) ?_
   exact ⟨h0_,h1_,h2_,h3_,h4_,h5_,h6_,h7_,h8_,h9_,h10_,h11_,h12_,fun _=>rfl,h14_,h15_,h16_,h17_,h18_,h19_,h20_,h21_,h22_,h23_,h24_,h25_,h26_,h27_,h28_,h29_,h30_,h31_,h32_,h33_,h34_,h35_,h36_,h37_,h38_,h39_,h40_,h41_,h42_,h43_,h44_,h45_,hI⟩
  ·intro D hD_ d13_0 x6 x91 x90 x89 x88 x87 x86 x85 x84 x83 x82 x81 x80 x79 x78 x77 x76 x75 x74 x73 x72 x71 x70 x69 x68 x67 x66 x65 x64 x63 x62 x61 x60 x59 x58 x57 x56 x55 x54 x53 x52 x51 x50 x49 x48 x47 w_
   rintro ⟨h0_,h1_,h2_,h3_,h4_,h5_,h6_,h7_,h8_,h9_,h10_,h11_,h12_,h13_,h14_,h15_,h16_,h17_,h18_,h19_,h20_,h21_,h22_,h23_,h24_,h25_,h26_,h27_,h28_,h29_,h30_,h31_,h32_,h33_,h34_,h35_,h36_,h37_,h38_,h39_,h40_,h41_,h42_,h43_,h44_,h45_,hI⟩
   obtain rfl:=h13_ d13_0
   refine vV (by omega) ?_
   exact ⟨h0_,h1_,h2_,h3_,h4_,h5_,h6_,h7_,h8_,h9_,h10_,h11_,h12_,h13_,fun _=>rfl,h15_,h16_,h17_,h18_,h19_,h20_,h21_,h22_,h23_,h24_,h25_,h26_,h27_,h28_,h29_,h30_,h31_,h32_,h33_,h34_,h35_,h36_,h37_,h38_,h39_,h40_,h41_,h42_,h43_,h44_,h45_,hI⟩
  ·intro D hD_  x6 x91 x90 x89 x88 x87 x86 x85 x84 x83 x82 x81 x80 x79 x78 x77 x76 x75 x74 x73 x72 x71 x70 x69 x68 x67 x66 x65 x64 x63 x62 x61 x60 x59 x58 x57 x56 x55 x54 x53 x52 x51 x50 x49 x48 x47 w_
   rintro ⟨h0_,h1_,h2_,h3_,h4_,h5_,h6_,h7_,h8_,h9_,h10_,h11_,h12_,h13_,h14_,h15_,h16_,h17_,h18_,h19_,h20_,h21_,h22_,h23_,h24_,h25_,h26_,h27_,h28_,h29_,h30_,h31_,h32_,h33_,h34_,h35_,h36_,h37_,h38_,h39_,h40_,h41_,h42_,h43_,h44_,h45_,hI⟩
   exact ⟨h0_,h1_,h2_,h3_,h4_,h5_,h6_,h7_,h8_,h9_,h10_,h11_,h12_,h13_,h14_,fun _=>rfl,h16_,h17_,h18_,h19_,h20_,h21_,h22_,h23_,h24_,h25_,h26_,h27_,h28_,h29_,h30_,h31_,h32_,h33_,h34_,h35_,h36_,h37_,h38_,h39_,h40_,h41_,h42_,h43_,h44_,h45_,hI⟩
  ·intro D hD_ d15_0 x6 x91 x90 x89 x88 x87 x86 x85 x84 x83 x82 x81 x80 x79 x78 x77 x76 x75 x74 x73 x72 x71 x70 x69 x68 x67 x66 x65 x64 x63 x62 x61 x60 x59 x58 x57 x56 x55 x54 x53 x52 x51 x50 x49 x48 x47 w_
   rintro ⟨h0_,h1_,h2_,h3_,h4_,h5_,h6_,h7_,h8_,h9_,h10_,h11_,h12_,h13_,h14_,h15_,h16_,h17_,h18_,h19_,h20_,h21_,h22_,h23_,h24_,h25_,h26_,h27_,h28_,h29_,h30_,h31_,h32_,h33_,h34_,h35_,h36_,h37_,h38_,h39_,h40_,h41_,h42_,h43_,h44_,h45_,hI⟩
   obtain rfl:=h15_ d15_0
   refine r_nilCheck ?_
   exact ⟨h0_,h1_,h2_,h3_,h4_,h5_,h6_,h7_,h8_,h9_,h10_,h11_,h12_,h13_,h14_,h15_,fun _=>rfl,h17_,h18_,h19_,h20_,h21_,h22_,h23_,h24_,h25_,h26_,h27_,h28_,h29_,h30_,h31_,h32_,h33_,h34_,h35_,h36_,h37_,h38_,h39_,h40_,h41_,h42_,h43_,h44_,h45_,hI⟩
  ·intro D hD_ d16_0 x6 x91 x90 x89 x88 x87 x86 x85 x84 x83 x82 x81 x80 x79 x78 x77 x76 x75 x74 x73 x72 x71 x70 x69 x68 x67 x66 x65 x64 x63 x62 x61 x60 x59 x58 x57 x56 x55 x54 x53 x52 x51 x50 x49 x48 x47 w_
   rintro ⟨h0_,h1_,h2_,h3_,h4_,h5_,h6_,h7_,h8_,h9_,h10_,h11_,h12_,h13_,h14_,h15_,h16_,h17_,h18_,h19_,h20_,h21_,h22_,h23_,h24_,h25_,h26_,h27_,h28_,h29_,h30_,h31_,h32_,h33_,h34_,h35_,h36_,h37_,h38_,h39_,h40_,h41_,h42_,h43_,h44_,h45_,hI⟩
   obtain rfl:=h16_ d16_0
   refine r_field bO ?_
   exact ⟨h0_,h1_,h2_,h3_,h4_,h5_,h6_,h7_,h8_,h9_,h10_,h11_,h12_,h13_,h14_,h15_,h16_,fun _=>rfl,h18_,h19_,h20_,h21_,h22_,h23_,h24_,h25_,h26_,h27_,h28_,h29_,h30_,h31_,h32_,h33_,h34_,h35_,h36_,h37_,h38_,h39_,h40_,h41_,h42_,h43_,h44_,h45_,hI⟩
  ·intro D hD_ d17_0 x6 x91 x90 x89 x88 x87 x86 x85 x84 x83 x82 x81 x80 x79 x78 x77 x76 x75 x74 x73 x72 x71 x70 x69 x68 x67 x66 x65 x64 x63 x62 x61 x60 x59 x58 x57 x56 x55 x54 x53 x52 x51 x50 x49 x48 x47 w_
   rintro ⟨h0_,h1_,h2_,h3_,h4_,h5_,h6_,h7_,h8_,h9_,h10_,h11_,h12_,h13_,h14_,h15_,h16_,h17_,h18_,h19_,h20_,h21_,h22_,h23_,h24_,h25_,h26_,h27_,h28_,h29_,h30_,h31_,h32_,h33_,h34_,h35_,h36_,h37_,h38_,h39_,h40_,h41_,h42_,h43_,h44_,h45_,hI⟩
   obtain rfl:=h17_ d17_0
   refine r_loadL hI 0 cQ rfl rfl ?_
   exact ⟨h0_,h1_,h2_,h3_,h4_,h5_,h6_,h7_,h8_,h9_,h10_,h11_,h12_,h13_,h14_,h15_,h16_,h17_,fun _=>rfl,h19_,h20_,h21_,h22_,h23_,h24_,h25_,h26_,h27_,h28_,h29_,h30_,h31_,h32_,h33_,h34_,h35_,h36_,h37_,h38_,h39_,h40_,h41_,h42_,h43_,h44_,h45_,hI⟩
  ·intro D hD_  x6 x91 x90 x89 x88 x87 x86 x85 x84 x83 x82 x81 x80 x79 x78 x77 x76 x75 x74 x73 x72 x71 x70 x69 x68 x67 x66 x65 x64 x63 x62 x61 x60 x59 x58 x57 x56 x55 x54 x53 x52 x51 x50 x49 x48 x47 w_
   rintro ⟨h0_,h1_,h2_,h3_,h4_,h5_,h6_,h7_,h8_,h9_,h10_,h11_,h12_,h13_,h14_,h15_,h16_,h17_,h18_,h19_,h20_,h21_,h22_,h23_,h24_,h25_,h26_,h27_,h28_,h29_,h30_,h31_,h32_,h33_,h34_,h35_,h36_,h37_,h38_,h39_,h40_,h41_,h42_,h43_,h44_,h45_,hI⟩
   exact ⟨h0_,h1_,h2_,h3_,h4_,h5_,h6_,h7_,h8_,h9_,h10_,h11_,h12_,h13_,h14_,h15_,h16_,h17_,h18_,fun _=>rfl,h20_,h21_,h22_,h23_,h24_,h25_,h26_,h27_,h28_,h29_,h30_,h31_,h32_,h33_,h34_,h35_,h36_,h37_,h38_,h39_,h40_,h41_,h42_,h43_,h44_,h45_,hI⟩
  ·intro D hD_ d19_0 x6 x91 x90 x89 x88 x87 x86 x85 x84 x83 x82 x81 x80 x79 x78 x77 x76 x75 x74 x73 x72 x71 x70 x69 x68 x67 x66 x65 x64 x63 x62 x61 x60 x59 x58 x57 x56 x55 x54 x53 x52 x51 x50 x49 x48 x47 w_
   rintro ⟨h0_,h1_,h2_,h3_,h4_,h5_,h6_,h7_,h8_,h9_,h10_,h11_,h12_,h13_,h14_,h15_,h16_,h17_,h18_,h19_,h20_,h21_,h22_,h23_,h24_,h25_,h26_,h27_,h28_,h29_,h30_,h31_,h32_,h33_,h34_,h35_,h36_,h37_,h38_,h39_,h40_,h41_,h42_,h43_,h44_,h45_,hI⟩
   obtain rfl:=h19_ d19_0
   refine vV (by omega) ?_
   exact ⟨h0_,h1_,h2_,h3_,h4_,h5_,h6_,h7_,h8_,h9_,h10_,h11_,h12_,h13_,h14_,h15_,h16_,h17_,h18_,h19_,fun _=>rfl,h21_,h22_,h23_,h24_,h25_,h26_,h27_,h28_,h29_,h30_,h31_,h32_,h33_,h34_,h35_,h36_,h37_,h38_,h39_,h40_,h41_,h42_,h43_,h44_,h45_,hI⟩
  ·intro D hD_ d20_0 x6 x91 x90 x89 x88 x87 x86 x85 x84 x83 x82 x81 x80 x79 x78 x77 x76 x75 x74 x73 x72 x71 x70 x69 x68 x67 x66 x65 x64 x63 x62 x61 x60 x59 x58 x57 x56 x55 x54 x53 x52 x51 x50 x49 x48 x47 w_
   rintro ⟨h0_,h1_,h2_,h3_,h4_,h5_,h6_,h7_,h8_,h9_,h10_,h11_,h12_,h13_,h14_,h15_,h16_,h17_,h18_,h19_,h20_,h21_,h22_,h23_,h24_,h25_,h26_,h27_,h28_,h29_,h30_,h31_,h32_,h33_,h34_,h35_,h36_,h37_,h38_,h39_,h40_,h41_,h42_,h43_,h44_,h45_,hI⟩
   obtain rfl:=h20_ d20_0
   refine r_add (by omega) ?_
   exact ⟨h0_,h1_,h2_,h3_,h4_,h5_,h6_,h7_,h8_,h9_,h10_,h11_,h12_,h13_,h14_,h15_,h16_,h17_,h18_,h19_,h20_,fun _=>rfl,h22_,h23_,h24_,h25_,h26_,h27_,h28_,h29_,h30_,h31_,h32_,h33_,h34_,h35_,h36_,h37_,h38_,h39_,h40_,h41_,h42_,h43_,h44_,h45_,hI⟩
  ·intro D hD_  x6 x91 x90 x89 x88 x87 x86 x85 x84 x83 x82 x81 x80 x79 x78 x77 x76 x75 x74 x73 x72 x71 x70 x69 x68 x67 x66 x65 x64 x63 x62 x61 x60 x59 x58 x57 x56 x55 x54 x53 x52 x51 x50 x49 x48 x47 w_
   rintro ⟨h0_,h1_,h2_,h3_,h4_,h5_,h6_,h7_,h8_,h9_,h10_,h11_,h12_,h13_,h14_,h15_,h16_,h17_,h18_,h19_,h20_,h21_,h22_,h23_,h24_,h25_,h26_,h27_,h28_,h29_,h30_,h31_,h32_,h33_,h34_,h35_,h36_,h37_,h38_,h39_,h40_,h41_,h42_,h43_,h44_,h45_,hI⟩
   exact ⟨h0_,h1_,h2_,h3_,h4_,h5_,h6_,h7_,h8_,h9_,h10_,h11_,h12_,h13_,h14_,h15_,h16_,h17_,h18_,h19_,h20_,h21_,fun _=>rfl,h23_,h24_,h25_,h26_,h27_,h28_,h29_,h30_,h31_,h32_,h33_,h34_,h35_,h36_,h37_,h38_,h39_,h40_,h41_,h42_,h43_,h44_,h45_,hI⟩
  ·intro D hD_ d22_0 x6 x91 x90 x89 x88 x87 x86 x85 x84 x83 x82 x81 x80 x79 x78 x77 x76 x75 x74 x73 x72 x71 x70 x69 x68 x67 x66 x65 x64 x63 x62 x61 x60 x59 x58 x57 x56 x55 x54 x53 x52 x51 x50 x49 x48 x47 w_
   rintro ⟨h0_,h1_,h2_,h3_,h4_,h5_,h6_,h7_,h8_,h9_,h10_,h11_,h12_,h13_,h14_,h15_,h16_,h17_,h18_,h19_,h20_,h21_,h22_,h23_,h24_,h25_,h26_,h27_,h28_,h29_,h30_,h31_,h32_,h33_,h34_,h35_,h36_,h37_,h38_,h39_,h40_,h41_,h42_,h43_,h44_,h45_,hI⟩
   obtain rfl:=h22_ d22_0
   refine r_nilCheck ?_
   exact ⟨h0_,h1_,h2_,h3_,h4_,h5_,h6_,h7_,h8_,h9_,h10_,h11_,h12_,h13_,h14_,h15_,h16_,h17_,h18_,h19_,h20_,h21_,h22_,fun _=>rfl,h24_,h25_,h26_,h27_,h28_,h29_,h30_,h31_,h32_,h33_,h34_,h35_,h36_,h37_,h38_,h39_,h40_,h41_,h42_,h43_,h44_,h45_,hI⟩
  ·intro D hD_ d23_0 x6 x91 x90 x89 x88 x87 x86 x85 x84 x83 x82 x81 x80 x79 x78 x77 x76 x75 x74 x73 x72 x71 x70 x69 x68 x67 x66 x65 x64 x63 x62 x61 x60 x59 x58 x57 x56 x55 x54 x53 x52 x51 x50 x49 x48 x47 w_
   rintro ⟨h0_,h1_,h2_,h3_,h4_,h5_,h6_,h7_,h8_,h9_,h10_,h11_,h12_,h13_,h14_,h15_,h16_,h17_,h18_,h19_,h20_,h21_,h22_,h23_,h24_,h25_,h26_,h27_,h28_,h29_,h30_,h31_,h32_,h33_,h34_,h35_,h36_,h37_,h38_,h39_,h40_,h41_,h42_,h43_,h44_,h45_,hI⟩
   obtain rfl:=h23_ d23_0
   refine r_field bO ?_
   exact ⟨h0_,h1_,h2_,h3_,h4_,h5_,h6_,h7_,h8_,h9_,h10_,h11_,h12_,h13_,h14_,h15_,h16_,h17_,h18_,h19_,h20_,h21_,h22_,h23_,fun _=>rfl,h25_,h26_,h27_,h28_,h29_,h30_,h31_,h32_,h33_,h34_,h35_,h36_,h37_,h38_,h39_,h40_,h41_,h42_,h43_,h44_,h45_,hI⟩
  ·intro D hD_ d24_0 x6 x91 x90 x89 x88 x87 x86 x85 x84 x83 x82 x81 x80 x79 x78 x77 x76 x75 x74 x73 x72 x71 x70 x69 x68 x67 x66 x65 x64 x63 x62 x61 x60 x59 x58 x57 x56 x55 x54 x53 x52 x51 x50 x49 x48 x47 w_
   rintro ⟨h0_,h1_,h2_,h3_,h4_,h5_,h6_,h7_,h8_,h9_,h10_,h11_,h12_,h13_,h14_,h15_,h16_,h17_,h18_,h19_,h20_,h21_,h22_,h23_,h24_,h25_,h26_,h27_,h28_,h29_,h30_,h31_,h32_,h33_,h34_,h35_,h36_,h37_,h38_,h39_,h40_,h41_,h42_,h43_,h44_,h45_,hI⟩
   obtain rfl:=h24_ d24_0
   refine r_loadL hI 0 cQ rfl rfl ?_
   exact ⟨h0_,h1_,h2_,h3_,h4_,h5_,h6_,h7_,h8_,h9_,h10_,h11_,h12_,h13_,h14_,h15_,h16_,h17_,h18_,h19_,h20_,h21_,h22_,h23_,h24_,fun _=>rfl,h26_,h27_,h28_,h29_,h30_,h31_,h32_,h33_,h34_,h35_,h36_,h37_,h38_,h39_,h40_,h41_,h42_,h43_,h44_,h45_,hI⟩
  ·intro D hD_ d25_0 x6 x91 x90 x89 x88 x87 x86 x85 x84 x83 x82 x81 x80 x79 x78 x77 x76 x75 x74 x73 x72 x71 x70 x69 x68 x67 x66 x65 x64 x63 x62 x61 x60 x59 x58 x57 x56 x55 x54 x53 x52 x51 x50 x49 x48 x47 w_
   rintro ⟨h0_,h1_,h2_,h3_,h4_,h5_,h6_,h7_,h8_,h9_,h10_,h11_,h12_,h13_,h14_,h15_,h16_,h17_,h18_,h19_,h20_,h21_,h22_,h23_,h24_,h25_,h26_,h27_,h28_,h29_,h30_,h31_,h32_,h33_,h34_,h35_,h36_,h37_,h38_,h39_,h40_,h41_,h42_,h43_,h44_,h45_,hI⟩
   obtain rfl:=h25_ d25_0
   refine r_len bw ?_
   exact ⟨h0_,h1_,h2_,h3_,h4_,h5_,h6_,h7_,h8_,h9_,h10_,h11_,h12_,h13_,h14_,h15_,h16_,h17_,h18_,h19_,h20_,h21_,h22_,h23_,h24_,h25_,fun _=>rfl,h27_,h28_,h29_,h30_,h31_,h32_,h33_,h34_,h35_,h36_,h37_,h38_,h39_,h40_,h41_,h42_,h43_,h44_,h45_,hI⟩
  ·intro D hD_ d21_0 d26_1 x6 x91 x90 x89 x88 x87 x86 x85 x84 x83 x82 x81 x80 x79 x78 x77 x76 x75 x74 x73 x72 x71 x70 x69 x68 x67 x66 x65 x64 x63 x62 x61 x60 x59 x58 x57 x56 x55 x54 x53 x52 x51 x50 x49 x48 x47 w_
   rintro ⟨h0_,h1_,h2_,h3_,h4_,h5_,h6_,h7_,h8_,h9_,h10_,h11_,h12_,h13_,h14_,h15_,h16_,h17_,h18_,h19_,h20_,h21_,h22_,h23_,h24_,h25_,h26_,h27_,h28_,h29_,h30_,h31_,h32_,h33_,h34_,h35_,h36_,h37_,h38_,h39_,h40_,h41_,h42_,h43_,h44_,h45_,hI⟩
   obtain rfl:=h21_ d21_0
   obtain rfl:=h26_ d26_1
   refine AA (a:=p * 7+3) (b:=ys.length) (by omega) rfl h0 ?_; rw [<- hd2]
   exact ⟨h0_,h1_,h2_,h3_,h4_,h5_,h6_,h7_,h8_,h9_,h10_,h11_,h12_,h13_,h14_,h15_,h16_,h17_,h18_,h19_,h20_,h21_,h22_,h23_,h24_,h25_,h26_,fun _=>rfl,h28_,h29_,h30_,h31_,h32_,h33_,h34_,h35_,h36_,h37_,h38_,h39_,h40_,h41_,h42_,h43_,h44_,h45_,hI⟩
  ·intro D hD_ d18_0 d27_1 x6 x91 x90 x89 x88 x87 x86 x85 x84 x83 x82 x81 x80 x79 x78 x77 x76 x75 x74 x73 x72 x71 x70 x69 x68 x67 x66 x65 x64 x63 x62 x61 x60 x59 x58 x57 x56 x55 x54 x53 x52 x51 x50 x49 x48 x47 w_
   rintro ⟨h0_,h1_,h2_,h3_,h4_,h5_,h6_,h7_,h8_,h9_,h10_,h11_,h12_,h13_,h14_,h15_,h16_,h17_,h18_,h19_,h20_,h21_,h22_,h23_,h24_,h25_,h26_,h27_,h28_,h29_,h30_,h31_,h32_,h33_,h34_,h35_,h36_,h37_,h38_,h39_,h40_,h41_,h42_,h43_,h44_,h45_,hI⟩
   obtain rfl:=h18_ d18_0
   obtain rfl:=h27_ d27_1
   refine r_indexAddr bw hi2 ?_
   exact ⟨h0_,h1_,h2_,h3_,h4_,h5_,h6_,h7_,h8_,h9_,h10_,h11_,h12_,h13_,h14_,h15_,h16_,h17_,h18_,h19_,h20_,h21_,h22_,h23_,h24_,h25_,h26_,h27_,fun _=>rfl,h29_,h30_,h31_,h32_,h33_,h34_,h35_,h36_,h37_,h38_,h39_,h40_,h41_,h42_,h43_,h44_,h45_,hI⟩
  ·intro D hD_ d28_0 x6 x91 x90 x89 x88 x87 x86 x85 x84 x83 x82 x81 x80 x79 x78 x77 x76 x75 x74 x73 x72 x71 x70 x69 x68 x67 x66 x65 x64 x63 x62 x61 x60 x59 x58 x57 x56 x55 x54 x53 x52 x51 x50 x49 x48 x47 w_
   rintro ⟨h0_,h1_,h2_,h3_,h4_,h5_,h6_,h7_,h8_,h9_,h10_,h11_,h12_,h13_,h14_,h15_,h16_,h17_,h18_,h19_,h20_,h21_,h22_,h23_,h24_,h25_,h26_,h27_,h28_,h29_,h30_,h31_,h32_,h33_,h34_,h35_,h36_,h37_,h38_,h39_,h40_,h41_,h42_,h43_,h44_,h45_,hI⟩
   obtain rfl:=h28_ d28_0
   refine r_load tt ((hI.cellS hS).trans hv2) ?_
   exact ⟨h0_,h1_,h2_,h3_,h4_,h5_,h6_,h7_,h8_,h9_,h10_,h11_,h12_,h13_,h14_,h15_,h16_,h17_,h18_,h19_,h20_,h21_,h22_,h23_,h24_,h25_,h26_,h27_,h28_,fun _=>rfl,h30_,h31_,h32_,h33_,h34_,h35_,h36_,h37_,h38_,h39_,h40_,h41_,h42_,h43_,h44_,h45_,hI⟩
  ·intro D hD_ d29_0 x6 x91 x90 x89 x88 x87 x86 x85 x84 x83 x82 x81 x80 x79 x78 x77 x76 x75 x74 x73 x72 x71 x70 x69 x68 x67 x66 x65 x64 x63 x62 x61 x60 x59 x58 x57 x56 x55 x54 x53 x52 x51 x50 x49 x48 x47 w_
   rintro ⟨h0_,h1_,h2_,h3_,h4_,h5_,h6_,h7_,h8_,h9_,h10_,h11_,h12_,h13_,h14_,h15_,h16_,h17_,h18_,h19_,h20_,h21_,h22_,h23_,h24_,h25_,h26_,h27_,h28_,h29_,h30_,h31_,h32_,h33_,h34_,h35_,h36_,h37_,h38_,h39_,h40_,h41_,h42_,h43_,h44_,h45_,hI⟩
   obtain rfl:=h29_ d29_0
   refine jL cf db (IntWalk.i64_in _ (by omega)) ?_
   exact ⟨h0_,h1_,h2_,h3_,h4_,h5_,h6_,h7_,h8_,h9_,h10_,h11_,h12_,h13_,h14_,h15_,h16_,h17_,h18_,h19_,h20_,h21_,h22_,h23_,h24_,h25_,h26_,h27_,h28_,h29_,fun _=>rfl,h31_,h32_,h33_,h34_,h35_,h36_,h37_,h38_,h39_,h40_,h41_,h42_,h43_,h44_,h45_,hI⟩
  ·intro D hD_ d30_0 x6 x91 x90 x89 x88 x87 x86 x85 x84 x83 x82 x81 x80 x79 x78 x77 x76 x75 x74 x73 x72 x71 x70 x69 x68 x67 x66 x65 x64 x63 x62 x61 x60 x59 x58 x57 x56 x55 x54 x53 x52 x51 x50 x49 x48 x47 w_
   rintro ⟨h0_,h1_,h2_,h3_,h4_,h5_,h6_,h7_,h8_,h9_,h10_,h11_,h12_,h13_,h14_,h15_,h16_,h17_,h18_,h19_,h20_,h21_,h22_,h23_,h24_,h25_,h26_,h27_,h28_,h29_,h30_,h31_,h32_,h33_,h34_,h35_,h36_,h37_,h38_,h39_,h40_,h41_,h42_,h43_,h44_,h45_,hI⟩
   obtain rfl:=h30_ d30_0
   refine vV (by omega) ?_
   exact ⟨h0_,h1_,h2_,h3_,h4_,h5_,h6_,h7_,h8_,h9_,h10_,h11_,h12_,h13_,h14_,h15_,h16_,h17_,h18_,h19_,h20_,h21_,h22_,h23_,h24_,h25_,h26_,h27_,h28_,h29_,h30_,fun _=>rfl,h32_,h33_,h34_,h35_,h36_,h37_,h38_,h39_,h40_,h41_,h42_,h43_,h44_,h45_,hI⟩
  ·intro D hD_ d14_0 d31_1 x6 x91 x90 x89 x88 x87 x86 x85 x84 x83 x82 x81 x80 x79 x78 x77 x76 x75 x74 x73 x72 x71 x70 x69 x68 x67 x66 x65 x64 x63 x62 x61 x60 x59 x58 x57 x56 x55 x54 x53 x52 x51 x50 x49 x48 x47 w_
   rintro ⟨h0_,h1_,h2_,h3_,h4_,h5_,h6_,h7_,h8_,h9_,h10_,h11_,h12_,h13_,h14_,h15_,h16_,h17_,h18_,h19_,h20_,h21_,h22_,h23_,h24_,h25_,h26_,h27_,h28_,h29_,h30_,h31_,h32_,h33_,h34_,h35_,h36_,h37_,h38_,h39_,h40_,h41_,h42_,h43_,h44_,h45_,hI⟩
   obtain rfl:=h14_ d14_0
   obtain rfl:=h31_ d31_1
   refine r_add (by omega) ?_
   exact ⟨h0_,h1_,h2_,h3_,h4_,h5_,h6_,h7_,h8_,h9_,h10_,h11_,h12_,h13_,h14_,h15_,h16_,h17_,h18_,h19_,h20_,h21_,h22_,h23_,h24_,h25_,h26_,h27_,h28_,h29_,h30_,h31_,fun _=>rfl,h33_,h34_,h35_,h36_,h37_,h38_,h39_,h40_,h41_,h42_,h43_,h44_,h45_,hI⟩
  ·intro D hD_  x6 x91 x90 x89 x88 x87 x86 x85 x84 x83 x82 x81 x80 x79 x78 x77 x76 x75 x74 x73 x72 x71 x70 x69 x68 x67 x66 x65 x64 x63 x62 x61 x60 x59 x58 x57 x56 x55 x54 x53 x52 x51 x50 x49 x48 x47 w_
   rintro ⟨h0_,h1_,h2_,h3_,h4_,h5_,h6_,h7_,h8_,h9_,h10_,h11_,h12_,h13_,h14_,h15_,h16_,h17_,h18_,h19_,h20_,h21_,h22_,h23_,h24_,h25_,h26_,h27_,h28_,h29_,h30_,h31_,h32_,h33_,h34_,h35_,h36_,h37_,h38_,h39_,h40_,h41_,h42_,h43_,h44_,h45_,hI⟩
   exact ⟨h0_,h1_,h2_,h3_,h4_,h5_,h6_,h7_,h8_,h9_,h10_,h11_,h12_,h13_,h14_,h15_,h16_,h17_,h18_,h19_,h20_,h21_,h22_,h23_,h24_,h25_,h26_,h27_,h28_,h29_,h30_,h31_,h32_,fun _=>rfl,h34_,h35_,h36_,h37_,h38_,h39_,h40_,h41_,h42_,h43_,h44_,h45_,hI⟩
  ·intro D hD_ d33_0 x6 x91 x90 x89 x88 x87 x86 x85 x84 x83 x82 x81 x80 x79 x78 x77 x76 x75 x74 x73 x72 x71 x70 x69 x68 x67 x66 x65 x64 x63 x62 x61 x60 x59 x58 x57 x56 x55 x54 x53 x52 x51 x50 x49 x48 x47 w_
   rintro ⟨h0_,h1_,h2_,h3_,h4_,h5_,h6_,h7_,h8_,h9_,h10_,h11_,h12_,h13_,h14_,h15_,h16_,h17_,h18_,h19_,h20_,h21_,h22_,h23_,h24_,h25_,h26_,h27_,h28_,h29_,h30_,h31_,h32_,h33_,h34_,h35_,h36_,h37_,h38_,h39_,h40_,h41_,h42_,h43_,h44_,h45_,hI⟩
   obtain rfl:=h33_ d33_0
   refine vV (by omega) ?_
   exact ⟨h0_,h1_,h2_,h3_,h4_,h5_,h6_,h7_,h8_,h9_,h10_,h11_,h12_,h13_,h14_,h15_,h16_,h17_,h18_,h19_,h20_,h21_,h22_,h23_,h24_,h25_,h26_,h27_,h28_,h29_,h30_,h31_,h32_,h33_,fun _=>rfl,h35_,h36_,h37_,h38_,h39_,h40_,h41_,h42_,h43_,h44_,h45_,hI⟩
  ·intro D hD_ d32_0 d34_1 x6 x91 x90 x89 x88 x87 x86 x85 x84 x83 x82 x81 x80 x79 x78 x77 x76 x75 x74 x73 x72 x71 x70 x69 x68 x67 x66 x65 x64 x63 x62 x61 x60 x59 x58 x57 x56 x55 x54 x53 x52 x51 x50 x49 x48 x47 w_
   rintro ⟨h0_,h1_,h2_,h3_,h4_,h5_,h6_,h7_,h8_,h9_,h10_,h11_,h12_,h13_,h14_,h15_,h16_,h17_,h18_,h19_,h20_,h21_,h22_,h23_,h24_,h25_,h26_,h27_,h28_,h29_,h30_,h31_,h32_,h33_,h34_,h35_,h36_,h37_,h38_,h39_,h40_,h41_,h42_,h43_,h44_,h45_,hI⟩
   obtain rfl:=h32_ d32_0
   obtain rfl:=h34_ d34_1
   refine r_add (by omega) ?_
   exact ⟨h0_,h1_,h2_,h3_,h4_,h5_,h6_,h7_,h8_,h9_,h10_,h11_,h12_,h13_,h14_,h15_,h16_,h17_,h18_,h19_,h20_,h21_,h22_,h23_,h24_,h25_,h26_,h27_,h28_,h29_,h30_,h31_,h32_,h33_,h34_,fun _=>rfl,h36_,h37_,h38_,h39_,h40_,h41_,h42_,h43_,h44_,h45_,hI⟩
  ·intro D hD_  x6 x91 x90 x89 x88 x87 x86 x85 x84 x83 x82 x81 x80 x79 x78 x77 x76 x75 x74 x73 x72 x71 x70 x69 x68 x67 x66 x65 x64 x63 x62 x61 x60 x59 x58 x57 x56 x55 x54 x53 x52 x51 x50 x49 x48 x47 w_
   rintro ⟨h0_,h1_,h2_,h3_,h4_,h5_,h6_,h7_,h8_,h9_,h10_,h11_,h12_,h13_,h14_,h15_,h16_,h17_,h18_,h19_,h20_,h21_,h22_,h23_,h24_,h25_,h26_,h27_,h28_,h29_,h30_,h31_,h32_,h33_,h34_,h35_,h36_,h37_,h38_,h39_,h40_,h41_,h42_,h43_,h44_,h45_,hI⟩
   exact ⟨h0_,h1_,h2_,h3_,h4_,h5_,h6_,h7_,h8_,h9_,h10_,h11_,h12_,h13_,h14_,h15_,h16_,h17_,h18_,h19_,h20_,h21_,h22_,h23_,h24_,h25_,h26_,h27_,h28_,h29_,h30_,h31_,h32_,h33_,h34_,h35_,fun _=>rfl,h37_,h38_,h39_,h40_,h41_,h42_,h43_,h44_,h45_,hI⟩
  ·intro D hD_  x6 x91 x90 x89 x88 x87 x86 x85 x84 x83 x82 x81 x80 x79 x78 x77 x76 x75 x74 x73 x72 x71 x70 x69 x68 x67 x66 x65 x64 x63 x62 x61 x60 x59 x58 x57 x56 x55 x54 x53 x52 x51 x50 x49 x48 x47 w_
   rintro ⟨h0_,h1_,h2_,h3_,h4_,h5_,h6_,h7_,h8_,h9_,h10_,h11_,h12_,h13_,h14_,h15_,h16_,h17_,h18_,h19_,h20_,h21_,h22_,h23_,h24_,h25_,h26_,h27_,h28_,h29_,h30_,h31_,h32_,h33_,h34_,h35_,h36_,h37_,h38_,h39_,h40_,h41_,h42_,h43_,h44_,h45_,hI⟩
   exact ⟨h0_,h1_,h2_,h3_,h4_,h5_,h6_,h7_,h8_,h9_,h10_,h11_,h12_,h13_,h14_,h15_,h16_,h17_,h18_,h19_,h20_,h21_,h22_,h23_,h24_,h25_,h26_,h27_,h28_,h29_,h30_,h31_,h32_,h33_,h34_,h35_,h36_,fun _=>rfl,h38_,h39_,h40_,h41_,h42_,h43_,h44_,h45_,hI⟩
  ·intro D hD_ d37_0 x6 x91 x90 x89 x88 x87 x86 x85 x84 x83 x82 x81 x80 x79 x78 x77 x76 x75 x74 x73 x72 x71 x70 x69 x68 x67 x66 x65 x64 x63 x62 x61 x60 x59 x58 x57 x56 x55 x54 x53 x52 x51 x50 x49 x48 x47 w_
   rintro ⟨h0_,h1_,h2_,h3_,h4_,h5_,h6_,h7_,h8_,h9_,h10_,h11_,h12_,h13_,h14_,h15_,h16_,h17_,h18_,h19_,h20_,h21_,h22_,h23_,h24_,h25_,h26_,h27_,h28_,h29_,h30_,h31_,h32_,h33_,h34_,h35_,h36_,h37_,h38_,h39_,h40_,h41_,h42_,h43_,h44_,h45_,hI⟩
   obtain rfl:=h37_ d37_0
   refine r_nilCheck ?_
   exact ⟨h0_,h1_,h2_,h3_,h4_,h5_,h6_,h7_,h8_,h9_,h10_,h11_,h12_,h13_,h14_,h15_,h16_,h17_,h18_,h19_,h20_,h21_,h22_,h23_,h24_,h25_,h26_,h27_,h28_,h29_,h30_,h31_,h32_,h33_,h34_,h35_,h36_,h37_,fun _=>rfl,h39_,h40_,h41_,h42_,h43_,h44_,h45_,hI⟩
  ·intro D hD_ d38_0 x6 x91 x90 x89 x88 x87 x86 x85 x84 x83 x82 x81 x80 x79 x78 x77 x76 x75 x74 x73 x72 x71 x70 x69 x68 x67 x66 x65 x64 x63 x62 x61 x60 x59 x58 x57 x56 x55 x54 x53 x52 x51 x50 x49 x48 x47 w_
   rintro ⟨h0_,h1_,h2_,h3_,h4_,h5_,h6_,h7_,h8_,h9_,h10_,h11_,h12_,h13_,h14_,h15_,h16_,h17_,h18_,h19_,h20_,h21_,h22_,h23_,h24_,h25_,h26_,h27_,h28_,h29_,h30_,h31_,h32_,h33_,h34_,h35_,h36_,h37_,h38_,h39_,h40_,h41_,h42_,h43_,h44_,h45_,hI⟩
   obtain rfl:=h38_ d38_0
   refine r_field bO ?_
   exact ⟨h0_,h1_,h2_,h3_,h4_,h5_,h6_,h7_,h8_,h9_,h10_,h11_,h12_,h13_,h14_,h15_,h16_,h17_,h18_,h19_,h20_,h21_,h22_,h23_,h24_,h25_,h26_,h27_,h28_,h29_,h30_,h31_,h32_,h33_,h34_,h35_,h36_,h37_,h38_,fun _=>rfl,h40_,h41_,h42_,h43_,h44_,h45_,hI⟩
  ·intro D hD_ d39_0 x6 x91 x90 x89 x88 x87 x86 x85 x84 x83 x82 x81 x80 x79 x78 x77 x76 x75 x74 x73 x72 x71 x70 x69 x68 x67 x66 x65 x64 x63 x62 x61 x60 x59 x58 x57 x56 x55 x54 x53 x52 x51 x50 x49 x48 x47 w_
   rintro ⟨h0_,h1_,h2_,h3_,h4_,h5_,h6_,h7_,h8_,h9_,h10_,h11_,h12_,h13_,h14_,h15_,h16_,h17_,h18_,h19_,h20_,h21_,h22_,h23_,h24_,h25_,h26_,h27_,h28_,h29_,h30_,h31_,h32_,h33_,h34_,h35_,h36_,h37_,h38_,h39_,h40_,h41_,h42_,h43_,h44_,h45_,hI⟩
   obtain rfl:=h39_ d39_0
   refine r_loadL hI 0 cQ rfl rfl ?_
   exact ⟨h0_,h1_,h2_,h3_,h4_,h5_,h6_,h7_,h8_,h9_,h10_,h11_,h12_,h13_,h14_,h15_,h16_,h17_,h18_,h19_,h20_,h21_,h22_,h23_,h24_,h25_,h26_,h27_,h28_,h29_,h30_,h31_,h32_,h33_,h34_,h35_,h36_,h37_,h38_,h39_,fun _=>rfl,h41_,h42_,h43_,h44_,h45_,hI⟩
  ·intro D hD_ d40_0 x6 x91 x90 x89 x88 x87 x86 x85 x84 x83 x82 x81 x80 x79 x78 x77 x76 x75 x74 x73 x72 x71 x70 x69 x68 x67 x66 x65 x64 x63 x62 x61 x60 x59 x58 x57 x56 x55 x54 x53 x52 x51 x50 x49 x48 x47 w_
   rintro ⟨h0_,h1_,h2_,h3_,h4_,h5_,h6_,h7_,h8_,h9_,h10_,h11_,h12_,h13_,h14_,h15_,h16_,h17_,h18_,h19_,h20_,h21_,h22_,h23_,h24_,h25_,h26_,h27_,h28_,h29_,h30_,h31_,h32_,h33_,h34_,h35_,h36_,h37_,h38_,h39_,h40_,h41_,h42_,h43_,h44_,h45_,hI⟩
   obtain rfl:=h40_ d40_0
   refine r_len bw ?_
   exact ⟨h0_,h1_,h2_,h3_,h4_,h5_,h6_,h7_,h8_,h9_,h10_,h11_,h12_,h13_,h14_,h15_,h16_,h17_,h18_,h19_,h20_,h21_,h22_,h23_,h24_,h25_,h26_,h27_,h28_,h29_,h30_,h31_,h32_,h33_,h34_,h35_,h36_,h37_,h38_,h39_,h40_,fun _=>rfl,h42_,h43_,h44_,h45_,hI⟩
  ·intro D hD_ d36_0 d41_1 x6 x91 x90 x89 x88 x87 x86 x85 x84 x83 x82 x81 x80 x79 x78 x77 x76 x75 x74 x73 x72 x71 x70 x69 x68 x67 x66 x65 x64 x63 x62 x61 x60 x59 x58 x57 x56 x55 x54 x53 x52 x51 x50 x49 x48 x47 w_
   rintro ⟨h0_,h1_,h2_,h3_,h4_,h5_,h6_,h7_,h8_,h9_,h10_,h11_,h12_,h13_,h14_,h15_,h16_,h17_,h18_,h19_,h20_,h21_,h22_,h23_,h24_,h25_,h26_,h27_,h28_,h29_,h30_,h31_,h32_,h33_,h34_,h35_,h36_,h37_,h38_,h39_,h40_,h41_,h42_,h43_,h44_,h45_,hI⟩
   obtain rfl:=h36_ d36_0
   obtain rfl:=h41_ d41_1
   refine AJ (a:=p) (b:=ys.length) rfl rfl h0 (by omega) ?_; rw [<- hdq]
   exact ⟨h0_,h1_,h2_,h3_,h4_,h5_,h6_,h7_,h8_,h9_,h10_,h11_,h12_,h13_,h14_,h15_,h16_,h17_,h18_,h19_,h20_,h21_,h22_,h23_,h24_,h25_,h26_,h27_,h28_,h29_,h30_,h31_,h32_,h33_,h34_,h35_,h36_,h37_,h38_,h39_,h40_,h41_,fun _=>rfl,h43_,h44_,h45_,hI⟩
  ·intro D hD_ d42_0 x6 x91 x90 x89 x88 x87 x86 x85 x84 x83 x82 x81 x80 x79 x78 x77 x76 x75 x74 x73 x72 x71 x70 x69 x68 x67 x66 x65 x64 x63 x62 x61 x60 x59 x58 x57 x56 x55 x54 x53 x52 x51 x50 x49 x48 x47 w_
   rintro ⟨h0_,h1_,h2_,h3_,h4_,h5_,h6_,h7_,h8_,h9_,h10_,h11_,h12_,h13_,h14_,h15_,h16_,h17_,h18_,h19_,h20_,h21_,h22_,h23_,h24_,h25_,h26_,h27_,h28_,h29_,h30_,h31_,h32_,h33_,h34_,h35_,h36_,h37_,h38_,h39_,h40_,h41_,h42_,h43_,h44_,h45_,hI⟩
   obtain rfl:=h42_ d42_0
   refine vV (by omega) ?_
   exact ⟨h0_,h1_,h2_,h3_,h4_,h5_,h6_,h7_,h8_,h9_,h10_,h11_,h12_,h13_,h14_,h15_,h16_,h17_,h18_,h19_,h20_,h21_,h22_,h23_,h24_,h25_,h26_,h27_,h28_,h29_,h30_,h31_,h32_,h33_,h34_,h35_,h36_,h37_,h38_,h39_,h40_,h41_,h42_,fun _=>rfl,h44_,h45_,hI⟩
  ·intro D hD_ d35_0 d43_1 x6 x91 x90 x89 x88 x87 x86 x85 x84 x83 x82 x81 x80 x79 x78 x77 x76 x75 x74 x73 x72 x71 x70 x69 x68 x67 x66 x65 x64 x63 x62 x61 x60 x59 x58 x57 x56 x55 x54 x53 x52 x51 x50 x49 x48 x47 w_
   rintro ⟨h0_,h1_,h2_,h3_,h4_,h5_,h6_,h7_,h8_,h9_,h10_,h11_,h12_,h13_,h14_,h15_,h16_,h17_,h18_,h19_,h20_,h21_,h22_,h23_,h24_,h25_,h26_,h27_,h28_,h29_,h30_,h31_,h32_,h33_,h34_,h35_,h36_,h37_,h38_,h39_,h40_,h41_,h42_,h43_,h44_,h45_,hI⟩
   obtain rfl:=h35_ d35_0
   obtain rfl:=h43_ d43_1
   refine r_add (by omega) ?_
   exact ⟨h0_,h1_,h2_,h3_,h4_,h5_,h6_,h7_,h8_,h9_,h10_,h11_,h12_,h13_,h14_,h15_,h16_,h17_,h18_,h19_,h20_,h21_,h22_,h23_,h24_,h25_,h26_,h27_,h28_,h29_,h30_,h31_,h32_,h33_,h34_,h35_,h36_,h37_,h38_,h39_,h40_,h41_,h42_,h43_,fun _=>rfl,h45_,hI⟩
  ·intro D hD_ d44_0 d0_1 d1_2 d2_3 d3_4 d4_5 d5_6 d6_7 d7_8 d8_9 d9_10 d10_11 d11_12 d12_13 d13_14 d14_15 d15_16 d16_17 d17_18 d18_19 d19_20 d20_21 d21_22 d22_23 d23_24 d24_25 d25_26 d26_27 d27_28 d28_29 d29_30 d30_31 d31_32 d32_33 d33_34 d34_35 d35_36 d36_37 d37_38 d38_39 d39_40 d40_41 d41_42 d42_43 d43_44 d44_45 x6 x91 x90 x89 x88 x87 x86 x85 x84 x83 x82 x81 x80 x79 x78 x77 x76 x75 x74 x73 x72 x71 x70 x69 x68 x67 x66 x65 x64 x63 x62 x61 x60 x59 x58 x57 x56 x55 x54 x53 x52 x51 x50 x49 x48 x47 w_
   rintro ⟨h0_,h1_,h2_,h3_,h4_,h5_,h6_,h7_,h8_,h9_,h10_,h11_,h12_,h13_,h14_,h15_,h16_,h17_,h18_,h19_,h20_,h21_,h22_,h23_,h24_,h25_,h26_,h27_,h28_,h29_,h30_,h31_,h32_,h33_,h34_,h35_,h36_,h37_,h38_,h39_,h40_,h41_,h42_,h43_,h44_,h45_,hI⟩
   obtain rfl:=h44_ d44_0
   exact ⟨h0_,h1_,h2_,h3_,h4_,h5_,h6_,h7_,h8_,h9_,h10_,h11_,h12_,h13_,h14_,h15_,h16_,h17_,h18_,h19_,h20_,h21_,h22_,h23_,h24_,h25_,h26_,h27_,h28_,h29_,h30_,h31_,h32_,h33_,h34_,h35_,h36_,h37_,h38_,h39_,h40_,h41_,h42_,h43_,h44_,fun _=>rfl,hI⟩
  intro D d45_ d44_ d43_ d42_ d41_ d40_ d39_ d38_ d37_ d36_ d35_ d34_ d33_ d32_ d31_ d30_ d29_ d28_ d27_ d26_ d25_ d24_ d23_ d22_ d21_ d20_ d19_ d18_ d17_ d16_ d15_ d14_ d13_ d12_ d11_ d10_ d9_ d8_ d7_ d6_ d5_ d4_ d3_ d2_ d1_ d0_ x6 x91 x90 x89 x88 x87 x86 x85 x84 x83 x82 x81 x80 x79 x78 x77 x76 x75 x74 x73 x72 x71 x70 x69 x68 x67 x66 x65 x64 x63 x62 x61 x60 x59 x58 x57 x56 x55 x54 x53 x52 x51 x50 x49 x48 x47 w_
  rintro ⟨h0_,h1_,h2_,h3_,h4_,h5_,h6_,h7_,h8_,h9_,h10_,h11_,h12_,h13_,h14_,h15_,h16_,h17_,h18_,h19_,h20_,h21_,h22_,h23_,h24_,h25_,h26_,h27_,h28_,h29_,h30_,h31_,h32_,h33_,h34_,h35_,h36_,h37_,h38_,h39_,h40_,h41_,h42_,h43_,h44_,h45_,hI⟩
  obtain rfl:=h45_ d45_
  obtain rfl:=h44_ d44_
  obtain rfl:=h43_ d43_
  obtain rfl:=h42_ d42_
  obtain rfl:=h41_ d41_
  obtain rfl:=h40_ d40_
  obtain rfl:=h39_ d39_
  obtain rfl:=h38_ d38_
  obtain rfl:=h37_ d37_
  obtain rfl:=h36_ d36_
  obtain rfl:=h35_ d35_
  obtain rfl:=h34_ d34_
  obtain rfl:=h33_ d33_
  obtain rfl:=h32_ d32_
  obtain rfl:=h31_ d31_
  obtain rfl:=h30_ d30_
  obtain rfl:=h29_ d29_
  obtain rfl:=h28_ d28_
  obtain rfl:=h27_ d27_
  obtain rfl:=h26_ d26_
  obtain rfl:=h25_ d25_
  obtain rfl:=h24_ d24_
  obtain rfl:=h23_ d23_
  obtain rfl:=h22_ d22_
  obtain rfl:=h21_ d21_
  obtain rfl:=h20_ d20_
  obtain rfl:=h19_ d19_
  obtain rfl:=h18_ d18_
  obtain rfl:=h17_ d17_
  obtain rfl:=h16_ d16_
  obtain rfl:=h15_ d15_
  obtain rfl:=h14_ d14_
  obtain rfl:=h13_ d13_
  obtain rfl:=h12_ d12_
  obtain rfl:=h11_ d11_
  obtain rfl:=h10_ d10_
  obtain rfl:=h9_ d9_
  obtain rfl:=h8_ d8_
  obtain rfl:=h7_ d7_
  obtain rfl:=h6_ d6_
  obtain rfl:=h5_ d5_
  obtain rfl:=h4_ d4_
  obtain rfl:=h3_ d3_
  obtain rfl:=h2_ d2_
  obtain rfl:=h1_ d1_
  obtain rfl:=h0_ d0_
  clear h0_ h1_ h2_ h3_ h4_ h5_ h6_ h7_ h8_ h9_ h10_ h11_ h12_ h13_ h14_ h15_ h16_ h17_ h18_ h19_ h20_ h21_ h22_ h23_ h24_ h25_ h26_ h27_ h28_ h29_ h30_ h31_ h32_ h33_ h34_ h35_ h36_ h37_ h38_ h39_ h40_ h41_ h42_ h43_ h44_ h45_
  obtain ⟨x,hx⟩:∃ x:Nat,((((((y1:Nat):Int) * 131)+(((y2:Nat):Int) * 1117))+((p:Int) * 29))+(((q:Nat):Int) * 53))=(x:Int):=⟨(((((((y1:Nat):Int) * 131)+(((y2:Nat):Int) * 1117))+((p:Int) * 29))+(((q:Nat):Int) * 53))).toNat,by omega⟩
  have hx2:x<=10000000000000000:=by omega
  rw [hx]
  refine AJ (a:=x) (b:=64) rfl rfl (by omega) (by omega) ?_
  refine EZ (a:=x) (b:=x / 64) rfl rfl (by omega) (by omega) ?_
  refine Ax hn ?_
  exact ⟨_,_,_,rfl,hI,Ext.refl _ _ _,rfl,rfl,_,Nat.mod_lt _ hn,rfl⟩
theorem ev {ys:List Nat} {ns:List Int} {S:Store} {sl v:Value} {br p:Nat} (h:RdSl S 1 eV sl ys) (hv:RdSl S 1 gr v ns) (h0:0<ns.length) (hp:p<=1000000000000) :
  Tri Tryz.prog vg [rdP br,v] [rdI br sl p] S fun r I' S'=>S'=S/\I'=[rdI br sl (p+1)]/\∃ n∈ns,r=.int .i64 n:=by
 intro w hI
 refine oZ ?_
 unfold iU
 refine r_lenSl hv bI ?_
 refine Run.call (A:=[]) aN aM hI (ba h hp h0) fun v' I' S' w'=>?_
 rintro ⟨rfl,rfl,k,hk,rfl⟩ _ hI
 obtain ⟨b,o,cap,c,E,fz,rfl,hS,hR⟩:=hv.at_ hk
 refine r_indexAddr bI hk ?_
 refine r_load aC ((hI.cellS hS).trans (cellsAt_get hR 0 _ rfl)) ?_
 exact ⟨_,_,_,rfl,hI,Ext.refl _ _ _,rfl,rfl,_,List.getElem_mem hk,rfl⟩
theorem oB {ys:List Nat} {ns:List ByteArray} {S:Store} {sl v:Value} {br p:Nat} (h:RdSl S 1 eV sl ys) (hv:RdSl S 1 lx v ns) (h0:0<ns.length) (hp:p<=1000000000000) :
  Tri Tryz.prog wK [rdP br,v] [rdI br sl p] S fun r I' S'=>S'=S/\I'=[rdI br sl (p+1)]/\∃ n∈ns,r=.string n:=by
 intro w hI
 refine pS ?_
 unfold lj
 refine r_lenSl hv aQ ?_
 refine Run.call (A:=[]) aN aM hI (ba h hp h0) fun v' I' S' w'=>?_
 rintro ⟨rfl,rfl,k,hk,rfl⟩ _ hI
 obtain ⟨b,o,cap,c,E,fz,rfl,hS,hR⟩:=hv.at_ hk
 refine r_indexAddr aQ hk ?_
 refine r_load ay ((hI.cellS hS).trans (cellsAt_get hR 0 _ rfl)) ?_
 exact ⟨_,_,_,rfl,hI,Ext.refl _ _ _,rfl,rfl,_,List.getElem_mem hk,rfl⟩
theorem AD {ys:List Nat} {S:Store} {v:Value} (h:RdSl S 1 eV v ys) :
  Tri Tryz.prog zG [v] [] S fun r I' S'=>S'=S/\∃ br sl ys',r=rdP br/\I'=[rdI br sl 0]/\RdSl S 1 eV sl ys':=by
 intro w hI
 refine rP ?_
 unfold om
 refine ⟨fun t w'=>(∃ ys',RdSl S 1 eV t ys')/\Inv w [] [] S w',?_,?_⟩
 ·refine r_lenSl h bw ?_
  refine r_gtr ?_
  refine condP (fun hgt=>?_) (fun _=>⟨⟨_,h⟩,hI⟩)
  obtain ⟨a,cap,rfl,hl,hc,hh⟩:=id h
  refine CJ (h:=2000) bw (by omega) ?_
  exact ⟨⟨_,RdSl.to h (by omega)⟩,hI⟩
 intro t0 _ _ _ _ _ w'
 rintro ⟨⟨ys',hr⟩,hI⟩
 obtain ⟨a,cap,rfl,_⟩:=id hr
 refine Run.of (v:=.agg #[.slice a ys'.length cap,.int .i64 0]) (w':=w') ?_ ?_
 ·unfold sBuild
  rw [Sem.run_bind,run_build w' ze _ #[.slice a ys'.length cap,.int .i64 0] (by kernel_rfl),Result.andThen_ok]
  rfl
 refine r_box hI fun br w' hI=>?_
 exact ⟨_,_,_,rfl,hI,Ext.refl _ _ _,rfl,br,_,ys',rfl,rfl,hr⟩
end
end Go.Proofs.YtmnnpgdeecnfpaaGreat
