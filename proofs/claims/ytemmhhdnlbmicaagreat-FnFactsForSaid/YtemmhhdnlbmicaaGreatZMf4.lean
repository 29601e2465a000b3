/- Texts read: spec.l1Struct, l1Chain, l2Read, l2Prime, l2Terms, l2Items. (printed by gen_read.py) -/
import Derived.Test.YtemmhhdnlbmicaaGreatZMf3
namespace Go.Proofs.YtemmhhdnlbmicaaGreat
open Go Go.RowKit
theorem FP {s:Bs} {i e:Nat} {t:T} (hn:Ex s i=some (t,e)):i<e/\e<=s.length:=by
 unfold Ex at hn
 obtain ⟨fr,hfr⟩:∃ fr,fr=if sgn s i 45=true then i+1 else i:=⟨_,rfl⟩
 simp only [<- hfr] at hn
 have hle:=xZ s 4 fr
 have hfi:i<=fr/\fr<=i+1:=by rw [hfr]; split <;> omega
 split at hn
 ·cases hn
 rename_i hc
 simp only [not_or] at hc
 simp only [Option.some.injEq,Prod.mk.injEq] at hn
 obtain ⟨_,rfl⟩:=hn
 have h2:fr<mn s 4 fr:=by
  rcases Nat.lt_or_ge fr (mn s 4 fr) with h|h
  ·exact h
  ·refine absurd ?_ hc.1
   rw [cut,List.drop_eq_nil_of_le]
   rw [List.length_take]
   omega
 have:=tX (oN s 4 fr (mn s 4 fr - 1) (by omega) (by omega))
 omega
theorem fG:∀ f:Nat,(∀ s i d l t n,gC f s i d l=some (t,n)->i<n/\n<=s.length)/\(∀ s i d l t0 t n,zb f s i d l t0=some (t,n)->i<=s.length->i<=n/\n<=s.length)/\
  (∀ s i d t n,nn f s i d=some (t,n)->i<n/\n<=s.length)/\(∀ s i d e o acc ts n,f0 f s i d e o acc=some (ts,n)->i<n/\n<s.length)
 | 0=>⟨fun s i d l t n h=>by simp [gC] at h,fun s i d l t0 t n h=>by simp [zb] at h,fun s i d t n h=>by simp [nn] at h,fun s i d e o acc ts n h=>by simp [f0] at h⟩
 | f+1=>by
  obtain ⟨h1,h2,h3,h4⟩:=fG f
  refine ⟨fun s i d l t n h=>?_,fun s i d l t0 t n h hi=>?_,fun s i d t n h=>?_,fun s i d e o acc ts n h=>?_⟩
  ·cases l with
   | zero=>rw [gC] at h; exact h3 _ _ _ _ _ h
   | succ l=>
    rw [gC] at h
    split at h
    ·cases h
    ·rename_i t' n' hr
     have a:=h1 _ _ _ _ _ _ hr
     have b:=h2 _ _ _ _ _ _ _ h a.2
     omega
  ·rw [zb] at h
   split at h
   ·simp only [Option.some.injEq,Prod.mk.injEq] at h
    omega
   ·rename_i name after ho
    have a:=DM ho
    split at h
    ·split at h
     ·cases h
     ·rename_i r e hr
      have b:=h1 _ _ _ _ _ _ hr
      split at h
      ·simp only [Option.some.injEq,Prod.mk.injEq] at h
       omega
      ·have c:=h2 _ _ _ _ _ _ _ h b.2
       omega
    ·simp only [Option.some.injEq,Prod.mk.injEq] at h
     omega
  ·rw [nn] at h
   split at h
   ·cases h
   rename_i h0
   have h0:i<s.length:=by omega
   split at h
   ·split at h
    ·cases h
    ·rename_i t' n' hr
     have a:=h1 _ _ _ _ _ _ hr
     split at h
     ·rename_i hs
      have:=eS hs
      simp only [Option.some.injEq,Prod.mk.injEq] at h
      omega
     ·cases h
   ·split at h
    ·split at h
     ·cases h
     ·rename_i ts n' hr
      have a:=h4 _ _ _ _ _ _ _ _ hr
      split at h
      ·simp only [Option.some.injEq,Prod.mk.injEq] at h
       omega
      ·split at h
       ·cases h
       ·rename_i t' e hr2
        have b:=h1 _ _ _ _ _ _ hr2
        split at h
        ·rename_i hs
         have:=eS hs
         simp only [Option.some.injEq,Prod.mk.injEq] at h
         omega
        ·cases h
    ·split at h
     ·simp only [Option.some.injEq,Prod.mk.injEq] at h
      omega
     ·split at h
      ·exact FP h
      ·split at h
       ·cases h
       ·rename_i name n' hn
        have a:=jC h0 hn
        split at h
        ·simp only [Option.some.injEq,Prod.mk.injEq] at h
         omega
        ·split at h
         ·cases h
         ·rename_i ts e hr
          have b:=h4 _ _ _ _ _ _ _ _ hr
          simp only [Option.some.injEq,Prod.mk.injEq] at h
          omega
  ·rw [f0] at h
   split at h
   ·cases h
   ·rename_i t' n' hr
    have a:=h1 _ _ _ _ _ _ hr
    split at h
    ·rename_i hs
     have hlt:n'<s.length:=hs.elim eS eS
     simp only [Option.some.injEq,Prod.mk.injEq] at h
     omega
    ·split at h
     ·have b:=h4 _ _ _ _ _ _ _ _ h
      omega
     ·cases h
abbrev G0 (t:T):Value->List Item->av->Prop:=fun v I' S'=>I'=[]/\∃ cs,v=.agg cs.toArray/\RdT S' cs t
abbrev EX (t:T) (n:Nat):Value->List Item->av->Prop:=fun v I' S'=>I'=[]/\∃ cs,v=.tuple #[.agg cs.toArray,.int .i64 (n:Int)]/\RdT S' cs t
abbrev FW (ts:List T) (n:Nat):Value->List Item->av->Prop:=fun v I' S'=>I'=[]/\∃ u,v=.tuple #[u,.int .i64 (n:Int)]/\RdSl S' 4 (RdT S') u ts
theorem py (S:av):RdSl S 4 (RdT S) (.slice none 0 0) []:=⟨none,0,rfl,Nat.le_refl _,Nat.zero_le _,.inl rfl⟩
theorem DP {S:av} {b:Nat} {E:TypeId} {a c:T} {k1 n1 k2 n2:Int} {s1 s2:ByteArray} {v1 v2:Value} (hS:S b=some (.cells #[.int .i64 k1,.int .i64 n1,.string s1,v1,.int .i64 k2,.int .i64 n2,.string s2,v2] E))
  (h1:RdT S [.int .i64 k1,.int .i64 n1,.string s1,v1] a) (h2:RdT S [.int .i64 k2,.int .i64 n2,.string s2,v2] c):RdSl S 4 (RdT S) (.slice (some ⟨b,0,none⟩) 2 2) [a,c]:=by
 refine ⟨_,2,rfl,Nat.le_refl _,by simp [maxLen],.inr ⟨b,0,_,E,(0,0),rfl,hS,fun i hi=>?_⟩⟩
 match i,hi with
 | 0,_=>exact h1
 | 1,_=>exact h2
section
variable {w w0:World} {X:List Nat} {L:List Item} {S:av} {K:Value->World->Prop}
attribute [local irreducible] Run CondV ag a4
theorem dx {P:Program} {T:TypeId} {cx cy:Bool} {x y:Int} {a b:Nat} (hx:x=a) (hy:y=b) (hr:a+b<=1000000000000000) (hk:K (.int .i64 ((a+b:Nat):Int)) w):Run P (ao .add T cx cy (.int .i64 x) (.int .i64 y)) w K:=by
 subst hx hy
 refine bC (by omega) ?_
 rw [<- Int.natCast_add]
 exact hk
theorem p8 {P:Program} {T:TypeId} {cx cy:Bool} {x y:Int} {a b:Nat} (hx:x=a) (hy:y=b) (hle:b<=a) (hr:a<=1000000000000000) (hk:K (.int .i64 ((a - b:Nat):Int)) w):Run P (ao .sub T cx cy (.int .i64 x) (.int .i64 y)) w K:=by
 subst hx hy
 refine qV (by omega) ?_
 rw [<- Int.ofNat_sub hle]
 exact hk
theorem i9 {s:ByteArray} {v:Value} (hv:∃ p n m,v=.slice p n m) (hk:K (.agg #[.int .i64 3,.int .i64 0,.string s,v]) w):Run Tryz.prog (cK ad [(0,.int .i64 3),(2,.string s),(3,v)]) w K:=by
 obtain ⟨p,n,m,rfl⟩:=hv
 refine Run.of (v:=.agg #[.int .i64 3,.int .i64 0,.string s,.slice p n m]) (w':=w) ?_ hk
 unfold cK
 rw [Sem.run_bind,run_build w ad _ #[.int .i64 3,.int .i64 0,.string s,.slice p n m] (by kernel_rfl),Result.andThen_ok]
 rfl
theorem yE (s:ByteArray) {ks:List T} {u:Value} (h:RdSl S 4 (RdT S) u ks) (hk:ks.length<=1000000):Tri Tryz.prog o4 [.string s,u] [] S fun v I' S'=>S'=S/\∃ kv css,v=.agg #[.int .i64 3,.int .i64 0,.string s,kv]/\I'=[bq kv ad 4 css]/\Rows 4 (RdT S) css ks:=by
 intro w hI
 refine qe ?_
 unfold mp
 refine bw hI bu fun b4 w' hI=>?_
 refine dL hI bn fun v0 w' hI=>?_
 have hI:Inv w [] [.blk b4 (.cells #[.int .i64 0,.int .i64 0,.string ⟨#[]⟩,.slice none 0 0] ad),bq v0 ad 4 []] S w':=hI
 refine iv hI 1 (css:=[]) bn (by omega) rfl h (fun _ _=>RdT.length) (fun _ _=>RdT.one) (by simp; omega) (by omega) fun v' w' css2 hR hI=>?_
 have hI:Inv w [] [.blk b4 (.cells #[.int .i64 0,.int .i64 0,.string ⟨#[]⟩,.slice none 0 0] ad),bq v' ad 4 css2] S w':=hI
 obtain ⟨a,n,c,rfl⟩:=hI.rowSlice 1 rfl
 refine i9 ⟨_,_,_,rfl⟩ ?_
 refine bd hI 0 rfl ai rfl rfl (by simp [Value.oneCell']) fun w' hI=>?_
 refine cz hI 0 ai rfl rfl ?_
 exact ⟨_,_,_,rfl,hI.sub (List.sublist_cons_self _ _),Ext.refl _ _ _,rfl,_,css2,rfl,rfl,hR⟩
theorem ff (s:ByteArray) (hs:s.size<=maxLen) {ks:List T} {u:Value} (h:RdSl S 4 (RdT S) u ks) (hk:ks.length<=1000000):Tri Tryz.prog o4 [.string s,u] [] S (G0 (.mk 3 0 s ks)):=by
 intro w hI
 refine (yE s h hk w hI).mono ?_
 rintro e w' ⟨v,I',S',rfl,hI,hE,rfl,kv,css,rfl,rfl,hR⟩
 obtain ⟨S1,hE1,hrd,hI⟩:=Inv.lendExt (A:=[]) hI
 have hrs:=RowRd.rows (hR.monoR fun _ _ h=>RdT.mono hE1.1 h) hrd
 exact ⟨_,[],S1,rfl,hI,hE.trans hE1,rfl,[.int .i64 3,.int .i64 0,.string s,kv],rfl,RdT.iff.2 ⟨kv,rfl,by simp [inI,T.kind],by simp [inI,T.n],hs,hrs⟩⟩
theorem BG {ts:List T} {j:Nat} (h:j<ts.length) (t:T):gh (ts.drop j) t=zH ts[j] (gh (ts.drop (j+1)) t):=by
 rw [List.drop_eq_getElem_cons h,gh]
theorem my {ts:List T} {t:T} {u:Value} {cs:List Value} (h:RdSl S 4 (RdT S) u ts) (ht:RdT S cs t) (hl:ts.length<=1000000):Tri Tryz.prog Ac [u,.agg cs.toArray] [] S (G0 (gh ts t)):=by
 intro w hI
 obtain ⟨kv,rfl,g1,g2,g3,g4⟩:=RdT.iff.1 ht
 obtain ⟨ka,kn,kc,hkv⟩:∃ a n m,kv=.slice a n m:=by
  obtain ⟨a,m,e,_⟩:=g4
  exact ⟨_,_,_,e⟩
 refine r8 ?_
 unfold oV
 refine ca hI fun b3 w' hI=>?_
 refine bw hI bu fun b4 w' hI=>?_
 refine a8 hI 0 ai rfl rfl ?_
 refine bw hI bu fun b5 w' hI=>?_
 refine bd hI 2 rfl ai rfl rfl (by simp [Value.oneCell',Value.cells,hkv]) fun w' hI=>?_
 refine a9 h ay ?_
 refine qV (by omega) ?_
 obtain ⟨B3,hB3⟩:∃ B3,B3=Item.blk b3 (.cells #[.int .i64 t.kind,.int .i64 t.n,.string t.name,kv] ad):=⟨_,rfl⟩
 have hI:Inv w [] [B3,.blk b4 (.cells #[.int .i64 0,.int .i64 0,.string ⟨#[]⟩,.slice none 0 0] ad),.blk b5 (.cells #[.int .i64 t.kind,.int .i64 t.n,.string t.name,kv] ad)] S w':=by rw [hB3]; exact hI
 refine ⟨fun i w'=>∃ (j:Nat) (S1:av) (ds:List Value),j<=ts.length/\i=.int .i64 ((j:Int) - 1)/\Ext w.heap.size [] S S1/\RdT S1 ds (gh (ts.drop j) t)/\Inv w [] [B3,.blk b4 (.cells #[.int .i64 0,.int .i64 0,.string ⟨#[]⟩,.slice none 0 0] ad),.blk b5 (.cells ds.toArray ad)] S1 w',
  fun i _=>(intOf i+1).toNat,⟨ts.length,S,_,Nat.le_refl _,rfl,Ext.refl _ _ _,by rw [List.drop_length]; exact ht,hI⟩,?_⟩
 intro t6 _ _ t21 t20 t19 t18 t17 t16 t15 _ _ w'
 rintro ⟨j,S1,ds,hj,rfl,hE,hds,hI⟩
 by_cases hj0:j=0
 ·subst hj0
  refine kS (by omega) ?_
  refine aX (fun hb=>by cases hb) (fun _=>?_)
  obtain ⟨kv',rfl,_,_,_,a,m,rfl,_⟩:=RdT.iff.1 hds
  refine a8 hI 2 ai rfl rfl ?_
  refine bd hI 1 rfl ai rfl rfl (by simp [Value.oneCell']) fun w' hI=>?_
  refine cz hI 1 ai rfl rfl ?_
  exact ⟨_,_,_,rfl,hI.nil,hE,rfl,_,rfl,hds⟩
 ·refine i6 (by omega) ?_
  refine aX (fun _=>?_) (fun hb=>by cases hb)
  obtain ⟨m,rfl⟩:∃ m,j=m+1:=⟨j - 1,by omega⟩
  have hm:m<ts.length:=by omega
  have ej:((m+1:Nat):Int) - 1=(m:Int):=by omega
  rw [ej]
  obtain ⟨b,o,cap,c,E,fz,rfl,hS,hR⟩:=(h.monoT hE.1).at_ hm
  obtain ⟨ka',hca,_,_,_,aa,am,hka',_⟩:=RdT.iff.1 hR
  subst hka'
  obtain ⟨kd,rfl,_,_,_,da,dm,rfl,_⟩:=RdT.iff.1 hds
  obtain ⟨o1,ho1⟩:∃ o1,o1=gh (ts.drop (m+1)) t:=⟨_,rfl⟩
  rw [<- ho1] at hds hI
  obtain ⟨a1,ha1⟩:∃ a1,a1=ts[m]:=⟨_,rfl⟩
  rw [<- ha1] at hR hca
  skip
  refine ⟨fun D db c4 cq dq dz dy eB w_=>(D 0=true->eB=.slice (some ⟨b,o,none⟩) ts.length cap)/\(D 1=true->dy=.int .i64 (m:Int))/\(D 2=true->dz=.pointer (some ⟨b,o+m * 4,none⟩))/\(D 3=true->dq=.agg #[.int .i64 a1.kind,.int .i64 a1.n,.string a1.name,.slice aa a1.kids.length am])/\(D 4=true->cq=.agg #[.int .i64 o1.kind,.int .i64 o1.n,.string o1.name,.slice da o1.kids.length dm])/\(D 5=true->True)/\(D 6=true->True)/\(D 7=true->True)/\∃ S2 c6,Ext w.heap.size [] S1 S2/\(D 5=true->RdSl S2 4 (RdT S2) c4 [a1,o1])/\(D 6=true->db=.agg c6.toArray/\RdT S2 c6 (zH a1 o1))/\(D 7=true->D 6=true)/\(D 6=true->D 5=true)/\(D 5=true->D 4=true)/\Inv w [] [B3,.blk b4 (.cells #[.int .i64 0,.int .i64 0,.string ⟨#[]⟩,.slice none 0 0] ad),.blk b5 (.cells (match D 7 with|true=>c6.toArray|false=>#[.int .i64 o1.kind,.int .i64 o1.n,.string o1.name,.slice da o1.kids.length dm]) ad)] S2 w_,⟨ae,ae,ae,ae,ae,ae,ae,ae,⟨S1,[],Ext.refl _ _ _,ae,ae,ae,ae,ae,hI.draw⟩⟩,⟨?_,?_,?_,?_,?_,?_,?_,?_,trivial⟩,?_⟩
  ·intro D a6  db c4 cq dq dz dy eB w_
   rintro ⟨aB,aC,aA,aD,ax,aF,aE,aG,⟨S2,c6,hE2,e5,e6,k7,k6,k5,hI⟩⟩
   exact ⟨fun _=>rfl,aC,aA,aD,ax,aF,aE,aG,⟨S2,c6,hE2,e5,e6,k7,k6,k5,hI⟩⟩
  ·intro D a6  db c4 cq dq dz dy eB w_
   rintro ⟨aB,aC,aA,aD,ax,aF,aE,aG,⟨S2,c6,hE2,e5,e6,k7,k6,k5,hI⟩⟩
   exact ⟨aB,fun _=>rfl,aA,aD,ax,aF,aE,aG,⟨S2,c6,hE2,e5,e6,k7,k6,k5,hI⟩⟩
  ·intro D a6 cV gH db c4 cq dq dz dy eB w_
   rintro ⟨aB,aC,aA,aD,ax,aF,aE,aG,⟨S2,c6,hE2,e5,e6,k7,k6,k5,hI⟩⟩
   obtain rfl:=aB cV
   obtain rfl:=aC gH
   refine ba ay hm ?_
   exact ⟨aB,aC,fun _=>rfl,aD,ax,aF,aE,aG,⟨S2,c6,hE2,e5,e6,k7,k6,k5,hI⟩⟩
  ·intro D a6 eL db c4 cq dq dz dy eB w_
   rintro ⟨aB,aC,aA,aD,ax,aF,aE,aG,⟨S2,c6,hE2,e5,e6,k7,k6,k5,hI⟩⟩
   obtain rfl:=aA eL
   refine cu (cs:=[.int .i64 a1.kind,.int .i64 a1.n,.string a1.name,.slice aa a1.kids.length am]) ai rfl (fun j v hj=>by rw [hI.cellS (hE2.1 _ _ hS)]; exact be hca j v hj) ?_
   exact ⟨aB,aC,aA,fun _=>rfl,ax,aF,aE,aG,⟨S2,c6,hE2,e5,e6,k7,k6,k5,hI⟩⟩
  ·intro D a6  db c4 cq dq dz dy eB w_
   rintro ⟨aB,aC,aA,aD,ax,aF,aE,aG,⟨S2,c6,hE2,e5,e6,k7,k6,k5,hI⟩⟩
   have f5:D 5=false:=Bool.eq_false_iff.2 fun h=>by rw [k5 h] at a6; cases a6
   have f6:D 6=false:=Bool.eq_false_iff.2 fun h=>by rw [k6 h] at f5; cases f5
   have f7:D 7=false:=Bool.eq_false_iff.2 fun h=>by rw [k7 h] at f6; cases f6
   have hI0:=hI
   rw [f7] at hI
   refine a8 hI 2 ai rfl rfl ?_
   have hI:=hI0
   have k5:=fun (_:aw D 4 5=true)=>(rfl:aw D 4 4=true)
   exact ⟨aB,aC,aA,aD,fun _=>rfl,aF,aE,aG,⟨S2,c6,hE2,e5,e6,k7,k6,k5,hI⟩⟩
  ·intro D a6 dg dW db c4 cq dq dz dy eB w_
   rintro ⟨aB,aC,aA,aD,ax,aF,aE,aG,⟨S2,c6,hE2,e5,e6,k7,k6,k5,hI⟩⟩
   obtain rfl:=aD dg
   obtain rfl:=ax dW
   have f6:D 6=false:=Bool.eq_false_iff.2 fun h=>by rw [k6 h] at a6; cases a6
   have f7:D 7=false:=Bool.eq_false_iff.2 fun h=>by rw [k7 h] at f6; cases f6
   rw [f7] at hI
   refine qi (v:=fun b=>.slice (some ⟨b,0,none⟩) 2 2) (o:=.cells #[.int .i64 a1.kind,.int .i64 a1.n,.string a1.name,.slice aa a1.kids.length am,.int .i64 o1.kind,.int .i64 o1.n,.string o1.name,.slice da o1.kids.length dm] ad) hI (by kernel_rfl) fun b20 w_ hI=>?_
   obtain ⟨S2,hI,hE3,hS3⟩:=Inv.pub1 (A:=[_,_,_]) hI
   have hE2:=hE2.trans hE3
   have hR':RdT S2 [.int .i64 a1.kind,.int .i64 a1.n,.string a1.name,.slice aa a1.kids.length am] a1:=by
    have:=RdT.mono hE2.1 hR
    rwa [hca] at this
   have e5:=fun (_:aw D 5 5=true)=>DP hS3 hR' (RdT.mono hE2.1 hds)
   have e6:=fun (h:D 6=true)=>(absurd h (by rw [f6]; decide):db=.agg c6.toArray/\RdT S2 c6 (zH a1 o1))
   have k6:=fun (_:aw D 5 6=true)=>(rfl:aw D 5 5=true)
   have k5:=fun (_:aw D 5 5=true)=>dW
   have hI:Inv w [] [B3,.blk b4 (.cells #[.int .i64 0,.int .i64 0,.string ⟨#[]⟩,.slice none 0 0] ad),.blk b5 (.cells (match D 7 with|true=>c6.toArray|false=>#[.int .i64 o1.kind,.int .i64 o1.n,.string o1.name,.slice da o1.kids.length dm]) ad)] S2 w_:=by
    rw [f7]
    exact hI
   exact ⟨aB,aC,aA,aD,ax,fun _=>by first|assumption|trivial,aE,aG,⟨S2,c6,hE2,e5,e6,k7,k6,k5,hI⟩⟩
  ·intro D a6 ef db c4 cq dq dz dy eB w_
   rintro ⟨aB,aC,aA,aD,ax,aF,aE,aG,⟨S2,c6,hE2,e5,e6,k7,k6,k5,hI⟩⟩
   have HJ:=aF ef
   have f7:D 7=false:=Bool.eq_false_iff.2 fun h=>by rw [k7 h] at a6; cases a6
   rw [f7] at hI
   refine Run.call0E eO eN hI (ff ⟨#[46]⟩ (by decide +kernel) (e5 ef) (by simp)) fun v' I' S2 w_=>?_
   rintro ⟨rfl,c6,rfl,hc6⟩ hE3 hI
   have hE2:=hE2.trans hE3
   have e5:=fun (h:D 5=true)=>(e5 h).monoT hE3.1
   have e6:aw D 6 6=true->Value.agg c6.toArray=Value.agg c6.toArray/\RdT S2 c6 (zH a1 o1):=fun _=>⟨rfl,hc6⟩
   have k7:=fun (_:aw D 6 7=true)=>(rfl:aw D 6 6=true)
   have k6:=fun (_:aw D 6 6=true)=>ef
   have hI:Inv w [] [B3,.blk b4 (.cells #[.int .i64 0,.int .i64 0,.string ⟨#[]⟩,.slice none 0 0] ad),.blk b5 (.cells (match D 7 with|true=>c6.toArray|false=>#[.int .i64 o1.kind,.int .i64 o1.n,.string o1.name,.slice da o1.kids.length dm]) ad)] S2 w_:=by
    rw [f7]
    exact hI
   exact ⟨aB,aC,aA,aD,ax,aF,fun _=>by first|assumption|trivial,aG,⟨S2,c6,hE2,e5,e6,k7,k6,k5,hI⟩⟩
  ·intro D a6 cA jh ul ve u5 vw yh Ar z0 db c4 cq dq dz dy eB w_
   rintro ⟨aB,aC,aA,aD,ax,aF,aE,aG,⟨S2,c6,hE2,e5,e6,k7,k6,k5,hI⟩⟩
   have Hv:=aE cA
   obtain ⟨q6,hc6⟩:=e6 cA
   subst q6
   rw [a6] at hI
   have hone:=hc6.one
   have hlen:=hc6.length
   refine bd hI 2 rfl ai (by simpa using hlen) rfl (by simpa using hone) fun w_ hI=>?_
   have k7:=fun (_:aw D 7 7=true)=>cA
   exact ⟨aB,aC,aA,aD,ax,aF,aE,fun _=>trivial,⟨S2,c6,hE2,e5,e6,k7,k6,k5,hI⟩⟩
  intro D gc gp f1 fL fJ fP fN fO db c4 cq dq dz dy eB w_
  rintro ⟨aB,aC,aA,aD,ax,aF,aE,aG,⟨S2,c6,hE2,e5,e6,k7,k6,k5,hI⟩⟩
  have Hv:=aE gp
  have HJ:=aF f1
  obtain rfl:=ax fL
  obtain rfl:=aD fJ
  obtain rfl:=aA fP
  obtain rfl:=aC fN
  obtain rfl:=aB fO
  clear aB aC aA aD ax aF aE aG
  rw [gc] at hI
  obtain ⟨_,hc6⟩:=e6 gp
  refine qV (by omega) ?_
  refine ⟨⟨m,S2,c6,by omega,rfl,hE.trans hE2,?_,hI⟩,by simp [intOf]⟩
  rw [BG hm,<- ha1,<- ho1]
  exact hc6
end
def kQ (f:Nat):Prop:=∀ (s:Bs) (i d l:Nat) (t:T) (n:Nat) (S:av),gC f s i d l=some (t,n)->s.length<=100000->i<=s.length->d<=100->l<=3->
 Tri Tryz.prog Bf [.string (st s),.int .i64 (i:Int),.int .i64 (d:Int),.int .i64 (l:Int)] [] S (EX t n)
def xA (f:Nat):Prop:=∀ (s:Bs) (i d:Nat) (t:T) (n:Nat) (S:av),nn f s i d=some (t,n)->s.length<=100000->i<=s.length->d<=100->
 Tri Tryz.prog zN [.string (st s),.int .i64 (i:Int),.int .i64 (d:Int)] [] S (EX t n)
def pc (f:Nat):Prop:=∀ (s:Bs) (i d e o:Nat) (ts:List T) (n:Nat) (S:av),f0 f s i d e o []=some (ts,n)->s.length<=100000->i<=s.length->d<=100->
 Tri Tryz.prog zp [.string (st s),.int .i64 (i:Int),.int .i64 (d:Int),.int .u8 (e:Int),.int .u8 (o:Int)] [] S (FW ts n)
theorem wh:∀ (f:Nat) (s:Bs) (i d e o:Nat) (acc ts:List T) (n:Nat),f0 f s i d e o acc=some (ts,n)->ts.length+i<=acc.length+n
 | 0,s,i,d,e,o,acc,ts,n,h=>by simp [f0] at h
 | f+1,s,i,d,e,o,acc,ts,n,h=>by
  rw [f0] at h
  split at h
  ·cases h
  ·rename_i t' n' hr
   have a:=(fG f).1 _ _ _ _ _ _ hr
   split at h
   ·simp only [Option.some.injEq,Prod.mk.injEq] at h
    obtain ⟨rfl,rfl⟩:=h
    rw [List.length_append]
    simp only [List.length_cons,List.length_nil]
    omega
   ·split at h
    ·have b:=wh f _ _ _ _ _ _ _ _ h
     rw [List.length_append] at b
     simp only [List.length_cons,List.length_nil] at b
     omega
    ·cases h
section
attribute [local irreducible] Run CondV ag a4
theorem Ey {f:Nat} (ih:∀ g,g<f->kQ g):pc f:=by
 intro s i d e o ts n S h hs hi hd w hI
 refine se ?_
 unfold pz
 refine dL hI bn fun v0 w' hI=>?_
 refine ⟨fun a b w'=>∃ (f' i':Nat) (acc:List T) (S1:av) (css:List (List Value)),f'<=f/\a=.int .i64 (i':Int)/\i<=i'/\i'<=s.length/\acc.length+i<=i'/\f0 f' s i' d e o acc=some (ts,n)/\Ext w.heap.size [] S S1/\Rows 4 (RdT S1) css acc/\Inv w [] [bq b ad 4 css] S1 w',
  fun a _ _=>s.length+1 - (intOf a).toNat,⟨f,i,[],S,[],Nat.le_refl _,rfl,Nat.le_refl _,hi,by simp,h,Ext.refl _ _ _,Rows.nil _ _,hI⟩,?_⟩
 intro t1 _ _ _ _ _ _ _ _ _ _ _ _ _ _ _ _ _ _ _ _ t12 _ _ _ _ _ _ _ _ _ _ _ _ _ _ _ _ _ _ w'
 rintro ⟨f',i',acc,S1,css,hf',rfl,hi1,hi2,hacc,hT,hE,hR,hI⟩
 have hcl:=hR.hc
 cases f' with
 | zero=>simp [f0] at hT
 | succ g=>
 rw [f0] at hT
 split at hT
 ·cases hT
 rename_i t n' hr
 have hle:=(fG g).1 _ _ _ _ _ _ hr
 refine Run.call0E eW fb hI (ih g (by omega) s i' d 3 t n' S1 hr hs hi2 hd (by omega)) fun v I' S2 w'=>?_
 rintro ⟨rfl,cs,rfl,hcs⟩ hE2 hI
 have hR2:=hR.monoR fun _ _ h=>RdT.mono hE2.1 h
 obtain ⟨kv,rfl,_,_,_,a,m,rfl,_⟩:=RdT.iff.1 hcs
 refine a5 (v:=.agg _) rfl ?_
 refine a5 (v:=.int .i64 (n':Int)) rfl ?_
 refine bw hI bu fun b13 w' hI=>?_
 refine bd hI 1 rfl ai rfl rfl (by simp [Value.oneCell']) fun w' hI=>?_
 refine dI (by omega) ?_
 refine aX (fun hb=>by cases hb) (fun _=>?_)
 refine a8 hI 1 ai rfl rfl ?_
 refine fi (css:=css) hI 0 _ bn (by omega) (by omega) rfl hcs.length hcs.one (by omega) (by omega) fun v' w' hI=>?_
 have hI:Inv w [] [bq v' ad 4 (css++[[.int .i64 t.kind,.int .i64 t.n,.string t.name,.slice a t.kids.length m]])] S2 w':=hI.pick [true,false]
 have hR3:=hR2.snoc hcs hcs.length
 refine ⟨fun b w'=>b=.bool (sgn s n' e || sgn s n' o)/\Inv w [] [bq v' ad 4 (css++[[.int .i64 t.kind,.int .i64 t.n,.string t.name,.slice a t.kids.length m]])] S2 w',?_,?_⟩
 ·refine Run.callPure cm cn hI (bG s n' e S2) fun w' hI=>?_
  cases he:sgn s n' e
  ·repeat (first|refine ac ?_|refine af (by decide) ?_|refine ab ?_|refine al ?_|refine ak ?_)
   refine Run.callPure cm cn hI (bG s n' o S2) fun w' hI=>?_
   repeat (first|refine ac ?_|refine af (by decide) ?_|refine ab ?_|refine al ?_|refine ak ?_)
   exact ⟨by simp,hI⟩
  ·repeat (first|refine ac ?_|refine af (by decide) ?_|refine ab ?_|refine al ?_|refine ak ?_)
   exact ⟨by simp,hI⟩
 intro t39 _ _ _ _ _ _ _ _ _ w'
 rintro ⟨rfl,hI⟩
 refine aX (fun hb=>?_) (fun hb=>?_)
 ·rw [Bool.or_eq_true] at hb
  rw [if_pos hb] at hT
  simp only [Option.some.injEq,Prod.mk.injEq] at hT
  obtain ⟨rfl,rfl⟩:=hT
  obtain ⟨S3,hE3,hrd,hI⟩:=Inv.lendExt (A:=[]) hI
  have hrs:=RowRd.rows (hR3.monoR fun _ _ h=>RdT.mono hE3.1 h) hrd
  exact ⟨_,[],S3,rfl,hI,(hE.trans hE2).trans hE3,rfl,_,rfl,hrs⟩
 ·have hb':¬ (sgn s n' e=true ∨ sgn s n' o=true):=fun h=>by rw [<- Bool.or_eq_true,hb] at h; cases h
  rw [if_neg hb'] at hT
  split at hT
  ·rename_i h44
   refine Run.callPure cm cn hI (bG s n' 44 S2) fun w' hI=>?_
   refine c9 ?_
   rw [h44]
   refine aX (fun hb=>by cases hb) (fun _=>?_)
   have:=eS h44
   refine dx (a:=n') (b:=1) rfl rfl (by omega) ?_
   refine ⟨⟨g,n'+1,acc++[t],S2,css++[[.int .i64 t.kind,.int .i64 t.n,.string t.name,.slice a t.kids.length m]],by omega,rfl,by omega,by omega,?_,hT,hE.trans hE2,hR3,hI⟩,?_⟩
   ·rw [List.length_append]; simp only [List.length_cons,List.length_nil]; omega
   ·simp only [intOf,Int.toNat_natCast]; omega
  ·cases hT
theorem zF {g:Nat} (hT:pc g) (hR:kQ g) {s:Bs} {i d:Nat} {ts:List T} {n:Nat} {t:T} {e:Nat} (h1:f0 g s i d 93 124 []=some (ts,n))
  (h2:(sgn s n 93=true/\t=gh ts Gs/\e=n+1) ∨ (sgn s n 93=false/\∃ u m,gC g s (n+1) d 3=some (u,m)/\sgn s m 93=true/\t=gh ts u/\e=m+1))
  (hs:s.length<=100000) (hi:i<=s.length) (hd:d<=100) (S:av):Tri Tryz.prog Ah [.string (st s),.int .i64 (i:Int),.int .i64 (d:Int)] [] S (EX t e):=by
 intro w hI
 have hle:=(fG g).2.2.2 _ _ _ _ _ _ _ _ h1
 have hln:=wh _ _ _ _ _ _ _ _ _ h1
 simp only [List.length_nil] at hln
 refine sr ?_
 unfold ou
 refine bw hI bu fun b6 w' hI=>?_
 refine Run.call0E oB nX hI (hT s i d 93 124 ts n S h1 hs hi hd) fun v I' S1 w'=>?_
 rintro ⟨rfl,u,rfl,hu⟩ hE1 hI
 have hI:Inv w [] [.blk b6 (.cells #[.int .i64 0,.int .i64 0,.string ⟨#[]⟩,.slice none 0 0] ad)] S1 w':=hI
 refine a5 (v:=u) rfl ?_
 refine a5 (v:=.int .i64 (n:Int)) rfl ?_
 refine dI (by omega) ?_
 refine aX (fun hb=>by cases hb) (fun _=>?_)
 refine Run.callPure cm cn hI (bG s n 93 S1) fun w' hI=>?_
 rcases h2 with ⟨h3,rfl,rfl⟩|⟨h3,x,m,h4,h5,rfl,rfl⟩
 ·rw [h3]
  refine aX (fun _=>?_) (fun hb=>by cases hb)
  refine Run.call0E eO eN hI (ff ⟨#[91,93]⟩ (by decide +kernel) (py S1) (by simp)) fun v I' S2 w'=>?_
  rintro ⟨rfl,cs,rfl,hcs⟩ hE2 hI
  refine Run.call0E oF oT hI (my (hu.monoT hE2.1) hcs (by omega)) fun v I' S3 w'=>?_
  rintro ⟨rfl,ds,rfl,hds⟩ hE3 hI
  refine dx (a:=n) (b:=1) rfl rfl (by omega) ?_
  obtain ⟨kv,rfl,_,_,_,a,k,rfl,_⟩:=RdT.iff.1 hds
  refine bd hI 0 rfl ai rfl rfl (by simp [Value.oneCell']) fun w' hI=>?_
  refine cz hI 0 ai rfl rfl ?_
  exact ⟨_,[],S3,rfl,hI.nil,(hE1.trans hE2).trans hE3,rfl,_,rfl,hds⟩
 ·rw [h3]
  refine aX (fun hb=>by cases hb) (fun _=>?_)
  refine dx (a:=n) (b:=1) rfl rfl (by omega) ?_
  have hle2:=(fG g).1 _ _ _ _ _ _ h4
  refine Run.call0E eW fb hI (hR s (n+1) d 3 x m S1 h4 hs (by omega) hd (by omega)) fun v I' S2 w'=>?_
  rintro ⟨rfl,cs,rfl,hcs⟩ hE2 hI
  obtain ⟨kv,rfl,_,_,_,a,k,rfl,_⟩:=RdT.iff.1 hcs
  refine a5 (v:=.agg _) rfl ?_
  refine a5 (v:=.int .i64 (m:Int)) rfl ?_
  refine bw hI bu fun b10 w' hI=>?_
  refine bd hI 1 rfl ai rfl rfl (by simp [Value.oneCell']) fun w' hI=>?_
  refine dI (by omega) ?_
  refine aX (fun hb=>by cases hb) (fun _=>?_)
  refine Run.callPure cm cn hI (bG s m 93 S2) fun w' hI=>?_
  refine c9 ?_
  rw [h5]
  refine aX (fun hb=>by cases hb) (fun _=>?_)
  refine a8 hI 1 ai rfl rfl ?_
  refine Run.call0E oF oT hI (my (hu.monoT hE2.1) hcs (by omega)) fun v I' S3 w'=>?_
  rintro ⟨rfl,ds,rfl,hds⟩ hE3 hI
  refine dx (a:=m) (b:=1) rfl rfl (by omega) ?_
  obtain ⟨kv,rfl,_,_,_,a,k,rfl,_⟩:=RdT.iff.1 hds
  refine bd hI 0 rfl ai rfl rfl (by simp [Value.oneCell']) fun w' hI=>?_
  refine cz hI 0 ai rfl rfl ?_
  exact ⟨_,[],S3,rfl,hI.nil,(hE1.trans hE2).trans hE3,rfl,_,rfl,hds⟩
theorem pC {n:Bs} (h:n.length<=6):(st n).size<=maxLen:=by rw [iU]; simp only [maxLen]; omega
theorem EH {f:Nat} (ihR:∀ g,g<f->kQ g) (ihT:∀ g,g<f->pc g):xA f:=by
 intro s i d t n S h hs hi hd w hI
 cases f with
 | zero=>simp [nn] at h
 | succ g=>
 have hR:=ihR g (by omega)
 have hT:=ihT g (by omega)
 have hle:=(fG (g+1)).2.2.1 _ _ _ _ _ h
 rw [nn] at h
 split at h
 ·cases h
 rename_i h0
 have hd0:1<=d:=by omega
 have hlt:i<s.length:=by omega
 refine sm ?_
 unfold pt
 refine bw hI bu fun b6 w' hI=>?_
 have hI:Inv w [] [.blk b6 (.cells #[.int .i64 0,.int .i64 0,.string ⟨#[]⟩,.slice none 0 0] ad)] S w':=hI
 refine ⟨fun b w'=>b=.bool false/\Inv w [] [.blk b6 (.cells #[.int .i64 0,.int .i64 0,.string ⟨#[]⟩,.slice none 0 0] ad)] S w',?_,?_⟩
 ·refine dI (by omega) ?_
  repeat (first|refine ac ?_|refine af (by decide) ?_|refine ab ?_|refine al ?_|refine ak ?_)
  refine ek a7 ?_
  refine kS (by omega) ?_
  repeat (first|refine ac ?_|refine af (by decide) ?_|refine ab ?_|refine al ?_|refine ak ?_)
  exact ⟨rfl,hI⟩
 intro t23 _ _ _ _ _ _ _ w'
 rintro ⟨rfl,hI⟩
 refine aX (fun hb=>by cases hb) (fun _=>?_)
 refine dn a7 hlt ?_
 split at h
 ·rename_i h40
  rw [fU hlt,decide_eq_true_eq] at h40
  refine eH (by omega) ?_
  refine aX (fun _=>?_) (fun hb=>by cases hb)
  split at h
  ·cases h
  rename_i u m hr
  split at h
  ·rename_i h41
   simp only [Option.some.injEq,Prod.mk.injEq] at h
   obtain ⟨rfl,rfl⟩:=h
   have hle2:=(fG g).1 _ _ _ _ _ _ hr
   refine dx (a:=i) (b:=1) rfl rfl (by omega) ?_
   refine Run.call0E eW fb hI (hR s (i+1) d 3 u m S hr hs (by omega) hd (by omega)) fun v I' S2 w'=>?_
   rintro ⟨rfl,cs,rfl,hcs⟩ hE2 hI
   obtain ⟨kv,rfl,_,_,_,a,k,rfl,_⟩:=RdT.iff.1 hcs
   refine a5 (v:=.agg _) rfl ?_
   refine a5 (v:=.int .i64 (m:Int)) rfl ?_
   refine bw hI bu fun b8 w' hI=>?_
   refine bd hI 1 rfl ai rfl rfl (by simp [Value.oneCell']) fun w' hI=>?_
   refine dI (by omega) ?_
   refine aX (fun hb=>by cases hb) (fun _=>?_)
   refine Run.callPure cm cn hI (bG s m 41 S2) fun w' hI=>?_
   refine c9 ?_
   rw [h41]
   refine aX (fun hb=>by cases hb) (fun _=>?_)
   refine a8 hI 1 ai rfl rfl ?_
   refine dx (a:=m) (b:=1) rfl rfl (by omega) ?_
   refine bd hI 0 rfl ai rfl rfl (by simp [Value.oneCell']) fun w' hI=>?_
   refine cz hI 0 ai rfl rfl ?_
   exact ⟨_,[],S2,rfl,hI.nil,hE2,rfl,_,rfl,hcs⟩
  ·cases h
 rename_i h40
 rw [fU hlt,decide_eq_true_eq] at h40
 refine dw (by omega) ?_
 refine aX (fun hb=>by cases hb) (fun _=>?_)
 refine ⟨fun b w'=>b=.bool (sgn s i 91 && !sgn s (i+1) 93)/\Inv w [] [.blk b6 (.cells #[.int .i64 0,.int .i64 0,.string ⟨#[]⟩,.slice none 0 0] ad)] S w',?_,?_⟩
 ·refine dn a7 hlt ?_
  by_cases h91:s[i].toNat=91
  ·refine eH (by omega) ?_
   repeat (first|refine ac ?_|refine af (by decide) ?_|refine ab ?_|refine al ?_|refine ak ?_)
   refine dx (a:=i) (b:=1) rfl rfl (by omega) ?_
   refine Run.callPure cm cn hI (bG s (i+1) 93 S) fun w' hI=>?_
   refine c9 ?_
   repeat (first|refine ac ?_|refine af (by decide) ?_|refine ab ?_|refine al ?_|refine ak ?_)
   exact ⟨by rw [fU hlt,decide_eq_true h91,Bool.true_and],hI⟩
  ·refine dw (by omega) ?_
   repeat (first|refine ac ?_|refine af (by decide) ?_|refine ab ?_|refine al ?_|refine ak ?_)
   exact ⟨by rw [fU hlt,decide_eq_false h91,Bool.false_and],hI⟩
 intro t65 _ _ _ _ _ _ _ _ _ _ w'
 rintro ⟨rfl,hI⟩
 split at h
 ·rename_i h91
  rw [h91.1,h91.2]
  refine aX (fun _=>?_) (fun hb=>by cases hb)
  split at h
  ·cases h
  rename_i ts m hts
  have h2:(sgn s m 93=true/\t=gh ts Gs/\n=m+1) ∨ (sgn s m 93=false/\∃ u k,gC g s (m+1) (d - 1) 3=some (u,k)/\sgn s k 93=true/\t=gh ts u/\n=k+1):=by
   split at h
   ·rename_i h3
    simp only [Option.some.injEq,Prod.mk.injEq] at h
    exact .inl ⟨h3,h.1.symm,h.2.symm⟩
   ·rename_i h3
    split at h
    ·cases h
    rename_i u k hr
    split at h
    ·rename_i h4
     simp only [Option.some.injEq,Prod.mk.injEq] at h
     exact .inr ⟨Bool.eq_false_iff.2 h3,u,k,hr,h4,h.1.symm,h.2.symm⟩
    ·cases h
  refine dx (a:=i) (b:=1) rfl rfl (by omega) ?_
  refine p8 (a:=d) (b:=1) rfl rfl hd0 (by omega) ?_
  refine Run.call0E xK yL hI (zF hT hR hts h2 hs (by omega) (by omega) S) fun v I' S2 w'=>?_
  rintro ⟨rfl,cs,rfl,hcs⟩ hE2 hI
  obtain ⟨kv,rfl,_,_,_,a,k,rfl,_⟩:=RdT.iff.1 hcs
  refine a5 (v:=.agg _) rfl ?_
  refine a5 (v:=.int .i64 (n:Int)) rfl ?_
  refine bd hI 0 rfl ai rfl rfl (by simp [Value.oneCell']) fun w' hI=>?_
  refine cz hI 0 ai rfl rfl ?_
  exact ⟨_,[],S2,rfl,hI.nil,hE2,rfl,_,rfl,hcs⟩
 rename_i h91
 have e91:(sgn s i 91 && !sgn s (i+1) 93)=false:=by
  cases h5:sgn s i 91
  ·rfl
  ·cases h6:sgn s (i+1) 93
   ·exact absurd ⟨h5,h6⟩ h91
   ·rfl
 rw [e91]
 refine aX (fun hb=>by cases hb) (fun _=>?_)
 refine ⟨fun b w'=>b=.bool (upp s i)/\Inv w [] [.blk b6 (.cells #[.int .i64 0,.int .i64 0,.string ⟨#[]⟩,.slice none 0 0] ad)] S w',?_,?_⟩
 ·refine dn a7 hlt ?_
  by_cases h65:65<=s[i].toNat
  ·refine i6 (by omega) ?_
   repeat (first|refine ac ?_|refine af (by decide) ?_|refine ab ?_|refine al ?_|refine ak ?_)
   refine dn a7 hlt ?_
   refine fI ?_
   repeat (first|refine ac ?_|refine af (by decide) ?_|refine ab ?_|refine al ?_|refine ak ?_)
   refine ⟨?_,hI⟩
   rw [upp,gK hlt,decide_eq_true h65,Bool.true_and]
   congr 1
   rw [decide_eq_decide]
   omega
  ·refine kS (by omega) ?_
   repeat (first|refine ac ?_|refine af (by decide) ?_|refine ab ?_|refine al ?_|refine ak ?_)
   exact ⟨by rw [upp,gK hlt,decide_eq_false h65,Bool.false_and],hI⟩
 intro t83 _ _ _ _ _ _ _ _ _ w'
 rintro ⟨rfl,hI⟩
 split at h
 ·rename_i hup
  simp only [Option.some.injEq,Prod.mk.injEq] at h
  obtain ⟨rfl,rfl⟩:=h
  rw [hup]
  rw [upp,gK hlt,Bool.and_eq_true,decide_eq_true_eq,decide_eq_true_eq] at hup
  refine aX (fun _=>?_) (fun hb=>by cases hb)
  refine dn a7 hlt ?_
  refine BZ (c:=(s[i].toNat:Int) - 65) (IntWalk.u8_in _ (by omega)) ?_
  refine jV eM gJ (IntWalk.i64_in _ (by omega)) ?_
  refine Run.callPure uM tF hI (mU _ S) fun w' hI=>?_
  refine dx (a:=i) (b:=1) rfl rfl (by omega) ?_
  refine bd hI 0 rfl ai rfl rfl (by simp [Value.oneCell']) fun w' hI=>?_
  refine cz hI 0 ai rfl rfl ?_
  have eg:((s.getD i 0).toNat:Int) - 65=(s[i].toNat:Int) - 65:=by rw [List.getD_eq_getElem?_getD,List.getElem?_eq_getElem hlt]; rfl
  rw [eg]
  exact ⟨_,[],S,rfl,hI.nil,Ext.refl _ _ _,rfl,_,rfl,RdT.nil (by simp [inI]) (by unfold inI; omega) (by decide +kernel) (Nat.zero_le _)⟩
 rename_i hup
 rw [Bool.eq_false_iff.2 hup]
 refine aX (fun hb=>by cases hb) (fun _=>?_)
 refine ⟨fun b w'=>b=.bool (dig s i || (sgn s i 45 && dig s (i+1)))/\Inv w [] [.blk b6 (.cells #[.int .i64 0,.int .i64 0,.string ⟨#[]⟩,.slice none 0 0] ad)] S w',?_,?_⟩
 ·refine Run.callPure fg fc hI (dR s i S) fun w' hI=>?_
  cases hdi:dig s i
  ·repeat (first|refine ac ?_|refine af (by decide) ?_|refine ab ?_|refine al ?_|refine ak ?_)
   refine dn a7 hlt ?_
   by_cases h45:s[i].toNat=45
   ·refine eH (by omega) ?_
    repeat (first|refine ac ?_|refine af (by decide) ?_|refine ab ?_|refine al ?_|refine ak ?_)
    refine dx (a:=i) (b:=1) rfl rfl (by omega) ?_
    refine Run.callPure fg fc hI (dR s (i+1) S) fun w' hI=>?_
    repeat (first|refine ac ?_|refine af (by decide) ?_|refine ab ?_|refine al ?_|refine ak ?_)
    exact ⟨by rw [fU hlt,decide_eq_true h45,Bool.true_and,Bool.false_or],hI⟩
   ·refine dw (by omega) ?_
    repeat (first|refine ac ?_|refine af (by decide) ?_|refine ab ?_|refine al ?_|refine ak ?_)
    exact ⟨by rw [fU hlt,decide_eq_false h45,Bool.false_and,Bool.false_or],hI⟩
  ·repeat (first|refine ac ?_|refine af (by decide) ?_|refine ab ?_|refine al ?_|refine ak ?_)
   exact ⟨by rw [Bool.true_or],hI⟩
 intro t106 _ _ _ _ _ _ _ _ _ _ _ _ _ _ w'
 rintro ⟨rfl,hI⟩
 split at h
 ·rename_i hdg
  have:(dig s i || (sgn s i 45 && dig s (i+1)))=true:=by rw [Bool.or_eq_true,Bool.and_eq_true]; exact hdg
  rw [this]
  refine aX (fun _=>?_) (fun hb=>by cases hb)
  obtain ⟨k,hk,rfl,_,_,hnum⟩:=uy h (by omega) S
  refine Run.callPure u9 vp hI hnum fun w' hI=>?_
  refine a5 (v:=wE 2 k) rfl ?_
  refine a5 (v:=.int .i64 (n:Int)) rfl ?_
  refine bw hI bu fun b10 w' hI=>?_
  refine bd hI 1 rfl ai rfl rfl (by simp [Value.oneCell']) fun w' hI=>?_
  refine dI (by omega) ?_
  refine aX (fun hb=>by cases hb) (fun _=>?_)
  refine a8 hI 1 ai rfl rfl ?_
  refine bd hI 0 rfl ai rfl rfl (by simp [Value.oneCell']) fun w' hI=>?_
  refine cz hI 0 ai rfl rfl ?_
  exact ⟨_,[],S,rfl,hI.nil,Ext.refl _ _ _,rfl,_,rfl,RdT.nil (by simp [inI]) hk (by decide +kernel) (Nat.zero_le _)⟩
 rename_i hdg
 have:(dig s i || (sgn s i 45 && dig s (i+1)))=false:=by
  rw [Bool.eq_false_iff,ne_eq,Bool.or_eq_true,Bool.and_eq_true]; exact hdg
 rw [this]
 refine aX (fun hb=>by cases hb) (fun _=>?_)
 refine Run.callPure lE l2 hI (j4 hlt hs S) fun w' hI=>?_
 cases hnm:kl s i with
 | none=>rw [hnm] at h; cases h
 | some q=>
 obtain ⟨name,m⟩:=q
 rw [hnm] at h
 simp only [] at h
 simp only [y4]
 have hnl:=jC hlt hnm
 refine a5 (v:=.string (st name)) rfl ?_
 refine a5 (v:=.int .i64 (m:Int)) rfl ?_
 refine dI (by omega) ?_
 refine aX (fun hb=>by cases hb) (fun _=>?_)
 refine Run.callPure cm cn hI (bG s m 40 S) fun w' hI=>?_
 refine c9 ?_
 split at h
 ·rename_i h40'
  simp only [Option.some.injEq,Prod.mk.injEq] at h
  obtain ⟨rfl,rfl⟩:=h
  rw [h40']
  refine aX (fun _=>?_) (fun hb=>by cases hb)
  refine Run.call0E eO eN hI (ff (st name) (pC hnl.2.2.1) (py S) (by simp)) fun v I' S2 w'=>?_
  rintro ⟨rfl,cs,rfl,hcs⟩ hE2 hI
  obtain ⟨kv,rfl,_,_,_,a,k,rfl,_⟩:=RdT.iff.1 hcs
  refine bd hI 0 rfl ai rfl rfl (by simp [Value.oneCell']) fun w' hI=>?_
  refine cz hI 0 ai rfl rfl ?_
  exact ⟨_,[],S2,rfl,hI.nil,hE2,rfl,_,rfl,hcs⟩
 ·rename_i h40'
  rw [Bool.not_eq_false] at h40'
  rw [h40']
  refine aX (fun hb=>by cases hb) (fun _=>?_)
  split at h
  ·cases h
  rename_i ts k hts
  simp only [Option.some.injEq,Prod.mk.injEq] at h
  obtain ⟨rfl,rfl⟩:=h
  have hm:=eS h40'
  have hle2:=(fG g).2.2.2 _ _ _ _ _ _ _ _ hts
  refine dx (a:=m) (b:=1) rfl rfl (by omega) ?_
  refine p8 (a:=d) (b:=1) rfl rfl hd0 (by omega) ?_
  refine Run.call0E oB nX hI (hT s (m+1) (d - 1) 41 41 ts k S hts hs (by omega) (by omega)) fun v I' S2 w'=>?_
  rintro ⟨rfl,u,rfl,hu⟩ hE2 hI
  refine a5 (v:=u) rfl ?_
  refine a5 (v:=.int .i64 (k:Int)) rfl ?_
  refine dI (by omega) ?_
  refine aX (fun hb=>by cases hb) (fun _=>?_)
  obtain ⟨a,c,rfl,_⟩:=id hu
  refine i9 ⟨_,_,_,rfl⟩ ?_
  refine dx (a:=k) (b:=1) rfl rfl (by omega) ?_
  refine bd hI 0 rfl ai rfl rfl (by simp [Value.oneCell']) fun w' hI=>?_
  refine cz hI 0 ai rfl rfl ?_
  exact ⟨_,[],S2,rfl,hI.nil,hE2,rfl,_,rfl,RdT.iff.2 ⟨_,rfl,by simp [inI,T.kind,r9],by simp [inI,T.n,r9],pC hnl.2.2.1,hu⟩⟩
theorem E9 {f:Nat} (ihR:∀ g,g<f->kQ g) (ihP:∀ g,g<f->xA g):kQ f:=by
 intro s i d l t n S h hs hi hd hl w hI
 cases f with
 | zero=>simp [gC] at h
 | succ f=>
 refine tI ?_
 unfold rJ
 refine bw hI bu fun b8 w' hI=>?_
 have hI:Inv w [] [.blk b8 (.cells #[.int .i64 0,.int .i64 0,.string ⟨#[]⟩,.slice none 0 0] ad)] S w':=hI
 cases l with
 | zero=>
  rw [gC] at h
  refine eH rfl ?_
  refine aX (fun _=>?_) (fun hb=>by cases hb)
  refine Run.call0E xd yC hI (ihP f (by omega) s i d t n S h hs hi hd) fun v I' S2 w'=>?_
  rintro ⟨rfl,cs,rfl,hcs⟩ hE2 hI
  obtain ⟨kv,rfl,_,_,_,a,k,rfl,_⟩:=RdT.iff.1 hcs
  refine a5 (v:=.agg _) rfl ?_
  refine a5 (v:=.int .i64 (n:Int)) rfl ?_
  refine bd hI 0 rfl ai rfl rfl (by simp [Value.oneCell']) fun w' hI=>?_
  refine cz hI 0 ai rfl rfl ?_
  exact ⟨_,[],S2,rfl,hI.nil,hE2,rfl,_,rfl,hcs⟩
 | succ l=>
  rw [gC] at h
  split at h
  ·cases h
  rename_i t0 n0 hr
  have hle:=(fG f).1 _ _ _ _ _ _ hr
  refine dw (by omega) ?_
  refine aX (fun hb=>by cases hb) (fun _=>?_)
  refine p8 (a:=l+1) (b:=1) rfl rfl (by omega) (by omega) ?_
  rw [Nat.add_sub_cancel]
  refine Run.call0E eW fb hI (ihR f (by omega) s i d l t0 n0 S hr hs hi hd (by omega)) fun v I' S1 w'=>?_
  rintro ⟨rfl,cs,rfl,hcs⟩ hE1 hI
  obtain ⟨kv,rfl,_,_,_,a,k,rfl,_⟩:=RdT.iff.1 hcs
  refine a5 (v:=.agg _) rfl ?_
  refine a5 (v:=.int .i64 (n0:Int)) rfl ?_
  refine bw hI bu fun b10 w' hI=>?_
  refine bd hI 1 rfl ai rfl rfl (by simp [Value.oneCell']) fun w' hI=>?_
  refine ⟨fun a w'=>∃ (f' n':Nat) (t':T) (ds:List Value) (S1:av),f'<=f/\a=.int .i64 (n':Int)/\n'<=s.length/\zb f' s n' d l t'=some (t,n)/\Ext w.heap.size [] S S1/\RdT S1 ds t'/\Inv w [] [.blk b8 (.cells #[.int .i64 0,.int .i64 0,.string ⟨#[]⟩,.slice none 0 0] ad),.blk b10 (.cells ds.toArray ad)] S1 w',
   fun a _=>s.length+1 - (intOf a).toNat,⟨f,n0,t0,_,S1,Nat.le_refl _,rfl,hle.2,h,hE1,hcs,hI⟩,?_⟩
  clear h hE1 hcs hI hr hle
  intro _ _ _ _ t11 _ _ _ _ _ _ _ _ _ _ _ _ _ _ _ _ _ _ _ _ _ _ _ _ _ _ _ _ _ _ _ _ _ _ _ _ _ _ _ _ _ _ w'
  rintro ⟨f',n',t',ds,S1,hf',rfl,hn',ho,hE,hds,hI⟩
  obtain ⟨kd,rfl,_,_,hts',da,dm,rfl,_⟩:=RdT.iff.1 hds
  cases f' with
  | zero=>simp [zb] at ho
  | succ g=>
  rw [zb] at ho
  refine i6 (by omega) ?_
  refine aX (fun _=>?_) (fun hb=>by cases hb)
  refine Run.callPure C7 Di hI (Bu hs hn' S1) fun w' hI=>?_
  cases hop:opF s n' with
  | none=>
   rw [hop] at ho
   simp only [Option.some.injEq,Prod.mk.injEq] at ho
   obtain ⟨rfl,rfl⟩:=ho
   simp only [opV]
   refine a5 (v:=.string ⟨#[]⟩) rfl ?_
   refine a5 (v:=.int .i64 (n':Int)) rfl ?_
   refine ⟨fun b w'=>b=.bool true/\Inv w [] [.blk b8 (.cells #[.int .i64 0,.int .i64 0,.string ⟨#[]⟩,.slice none 0 0] ad),.blk b10 (.cells #[.int .i64 t'.kind,.int .i64 t'.n,.string t'.name,.slice da t'.kids.length dm] ad)] S1 w',?_,?_⟩
   ·refine dj ?_
    rw [decide_eq_true rfl]
    repeat (first|refine ac ?_|refine af (by decide) ?_|refine ab ?_|refine al ?_|refine ak ?_)
    exact ⟨rfl,hI⟩
   intro t48 _ _ _ _ _ _ _ w'
   rintro ⟨rfl,hI⟩
   refine aX (fun _=>?_) (fun hb=>by cases hb)
   refine a8 hI 1 ai rfl rfl ?_
   refine bd hI 0 rfl ai rfl rfl (by simp [Value.oneCell']) fun w' hI=>?_
   refine cz hI 0 ai rfl rfl ?_
   exact ⟨_,[],S1,rfl,hI.nil,hE,rfl,_,rfl,hds⟩
  | some q=>
   obtain ⟨name,after⟩:=q
   rw [hop] at ho
   simp only [] at ho
   simp only [opV]
   have hol:=DM hop
   refine a5 (v:=.string (st name)) rfl ?_
   refine a5 (v:=.int .i64 (after:Int)) rfl ?_
   refine ⟨fun b w'=>b=.bool (!decide (dG (st name)=((l+1:Nat):Int)))/\Inv w [] [.blk b8 (.cells #[.int .i64 0,.int .i64 0,.string ⟨#[]⟩,.slice none 0 0] ad),.blk b10 (.cells #[.int .i64 t'.kind,.int .i64 t'.n,.string t'.name,.slice da t'.kids.length dm] ad)] S1 w',?_,?_⟩
   ·refine s5 (b:=[]) ?_
    rw [decide_eq_false hol.2.2.2]
    repeat (first|refine ac ?_|refine af (by decide) ?_|refine ab ?_|refine al ?_|refine ak ?_)
    refine Run.callPure eI eK hI (dC _ S1) fun w' hI=>?_
    refine fA ?_
    repeat (first|refine ac ?_|refine af (by decide) ?_|refine ab ?_|refine al ?_|refine ak ?_)
    exact ⟨rfl,hI⟩
   intro t48 _ _ _ _ _ _ _ w'
   rintro ⟨rfl,hI⟩
   split at ho
   ·rename_i hlv
    rw [decide_eq_true hlv]
    refine aX (fun hb=>by cases hb) (fun _=>?_)
    split at ho
    ·cases ho
    rename_i r e hr
    have hle:=(fG g).1 _ _ _ _ _ _ hr
    refine p8 (a:=l+1) (b:=1) rfl rfl (by omega) (by omega) ?_
    rw [Nat.add_sub_cancel]
    refine Run.call0E eW fb hI (ihR g (by omega) s after d l r e S1 hr hs (by omega) hd (by omega)) fun v I' S2 w'=>?_
    rintro ⟨rfl,es,rfl,hes⟩ hE2 hI
    obtain ⟨ke,rfl,_,_,_,ea,em,rfl,_⟩:=RdT.iff.1 hes
    refine a5 (v:=.agg _) rfl ?_
    refine a5 (v:=.int .i64 (e:Int)) rfl ?_
    refine bw hI bu fun b14 w' hI=>?_
    refine bd hI 2 rfl ai rfl rfl (by simp [Value.oneCell']) fun w' hI=>?_
    refine dI (by omega) ?_
    refine aX (fun hb=>by cases hb) (fun _=>?_)
    refine a8 hI 1 ai rfl rfl ?_
    refine a8 hI 2 ai rfl rfl ?_
    refine qi (v:=fun b=>.slice (some ⟨b,0,none⟩) 2 2) (o:=.cells #[.int .i64 t'.kind,.int .i64 t'.n,.string t'.name,.slice da t'.kids.length dm,.int .i64 r.kind,.int .i64 r.n,.string r.name,.slice ea r.kids.length em] ad) hI (by kernel_rfl) fun b20 w' hI=>?_
    obtain ⟨S3,hI,hE3,hS3⟩:=Inv.pub1 (A:=[_,_,_]) hI
    have hks:=DP hS3 (RdT.mono (hE2.1.trans hE3.1) hds) (RdT.mono hE3.1 hes)
    refine Run.call0E eO eN hI (ff (st name) (pC hol.2.2.1) hks (by simp)) fun v I' S4 w'=>?_
    rintro ⟨rfl,gs,rfl,hgs⟩ hE4 hI
    obtain ⟨kg,rfl,_,_,_,ga,gm,rfl,_⟩:=RdT.iff.1 hgs
    have hE':=((hE.trans hE2).trans hE3).trans hE4
    refine bd hI 1 rfl ai rfl rfl (by simp [Value.oneCell']) fun w' hI=>?_
    split at ho
    ·rename_i hl2
     subst hl2
     simp only [Option.some.injEq,Prod.mk.injEq] at ho
     obtain ⟨rfl,rfl⟩:=ho
     refine eH rfl ?_
     refine aX (fun _=>?_) (fun hb=>by cases hb)
     refine a8 hI 1 ai rfl rfl ?_
     refine bd hI 0 rfl ai rfl rfl (by simp [Value.oneCell']) fun w' hI=>?_
     refine cz hI 0 ai rfl rfl ?_
     exact ⟨_,[],S4,rfl,hI.nil,hE',rfl,_,rfl,hgs⟩
    ·refine dw (by omega) ?_
     refine aX (fun hb=>by cases hb) (fun _=>?_)
     refine ⟨⟨g,e,_,_,S4,by omega,rfl,hle.2,ho,hE',hgs,hI.pick [true,true,false]⟩,?_⟩
     simp only [intOf,Int.toNat_natCast]
     omega
   ·rename_i hlv
    rw [decide_eq_false hlv]
    simp only [Option.some.injEq,Prod.mk.injEq] at ho
    obtain ⟨rfl,rfl⟩:=ho
    refine aX (fun _=>?_) (fun hb=>by cases hb)
    refine a8 hI 1 ai rfl rfl ?_
    refine bd hI 0 rfl ai rfl rfl (by simp [Value.oneCell']) fun w' hI=>?_
    refine cz hI 0 ai rfl rfl ?_
    exact ⟨_,[],S1,rfl,hI.nil,hE,rfl,_,rfl,hds⟩
theorem Et:∀ F f,f<F->kQ f/\xA f/\pc f
 | 0,f,h=>by omega
 | F+1,f,h=>by
  have ih:=Et F
  have hR:kQ f:=E9 (fun g hg=>(ih g (by omega)).1) (fun g hg=>(ih g (by omega)).2.1)
  have hT:pc f:=Ey fun g hg=>(ih g (by omega)).1
  exact ⟨hR,EH (fun g hg=>(ih g (by omega)).1) (fun g hg=>(ih g (by omega)).2.2),hT⟩
theorem wz (f:Nat):kQ f:=(Et (f+1) f (by omega)).1
end

end Go.Proofs.YtemmhhdnlbmicaaGreat

/- spec.l1Parse and l1Args on texts of one level: variables, names, names with such arguments. -/
namespace Go.Proofs.YtemmhhdnlbmicaaGreat
open Go Go.RowKit
/- what is read at a place, A reading the arguments -/
def DA (A:Bs->Nat->Option (List T × Nat)) (s:Bs) (i:Nat):Option (T × Nat):=if s.length<=i then none else if upp s i=true then some (.mk 1 ((s.getD i 0).toNat - 65) emptyB [],i+1)
  else if dig s i=true ∨ (sgn s i 45=true/\dig s (i+1)=true) then none else if sgn s i 91=true then none
  else match kl s i with
   | none=>none
   | some (name,n)=>if sgn s n 40=false then some (r9 name [],n) else match A s (n+1) with
    | none=>none
    | some (ts,e)=>some (r9 name ts,e)
def CG:Bs->Nat->Option (T × Nat):=DA fun _ _=>none
def wn:Nat->Bs->Nat->List T->Option (List T × Nat)
 | 0,_,_,_=>none
 | f+1,s,i,acc=>if 4<acc.length then none else match CG s i with
  | none=>none
  | some (t,n)=>if sgn s n 41=true then some (acc++[t],n+1) else if sgn s n 44=true then wn f s (n+1) (acc++[t]) else none
def EE:Bs->Nat->Option (T × Nat):=DA fun s i=>wn 6 s i []
theorem DC {s:Bs} {i:Nat} {t:T} {n:Nat} (h:CG s i=some (t,n)):i<n/\n<=s.length:=by
 unfold CG DA at h
 split at h
 ·cases h
 rename_i hi
 have hlt:i<s.length:=by omega
 split at h
 ·simp only [Option.some.injEq,Prod.mk.injEq] at h
  omega
 split at h
 ·cases h
 split at h
 ·cases h
 cases hnm:kl s i with
 | none=>rw [hnm] at h; cases h
 | some q=>
 obtain ⟨name,m⟩:=q
 rw [hnm] at h
 simp only [] at h
 have hnl:=jC hlt hnm
 split at h
 ·simp only [Option.some.injEq,Prod.mk.injEq] at h
  omega
 ·cases h
section
attribute [local irreducible] Run CondV ag a4
abbrev BX (t:T) (n:Nat):Value->List Item->av->Prop:=fun v I' S'=>I'=[]/\∃ cs,v=.tuple #[.agg cs.toArray,.int .i64 (n:Int)]/\RdT S' cs t
abbrev EW (ts:List T) (n:Nat):Value->List Item->av->Prop:=fun v I' S'=>I'=[]/\∃ u,v=.tuple #[u,.int .i64 (n:Int)]/\RdSl S' 4 (RdT S') u ts
theorem tQ {A:Bs->Nat->Option (List T × Nat)} {m0:Nat} (hm0:1<=m0) {s:Bs} (hs:s.length<=100000)
  (hA:∀ (i d:Nat) ts e S,A s i=some (ts,e)->i<=s.length->m0<=d->d<=100->Tri Tryz.prog ub [.string (st s),.int .i64 (i:Int),.int .i64 (d:Int)] [] S (EW ts e))
  {i d n:Nat} {t:T} {S:av} (h:DA A s i=some (t,n)) (hd:m0+1<=d) (hd2:d<=100):Tri Tryz.prog lC [.string (st s),.int .i64 (i:Int),.int .i64 (d:Int)] [] S (BX t n):=by
 intro w hI
 unfold DA at h
 split at h
 ·cases h
 rename_i hi
 have hlt:i<s.length:=by omega
 refine sC ?_
 unfold pB;dsimp only
 refine bw hI bu fun b6 w' hI=>?_
 have hI:Inv w [] [.blk b6 (.cells #[.int .i64 0,.int .i64 0,.string ⟨#[]⟩,.slice none 0 0] ad)] S w':=hI
 refine ⟨fun b w'=>b=.bool false/\Inv w [] [.blk b6 (.cells #[.int .i64 0,.int .i64 0,.string ⟨#[]⟩,.slice none 0 0] ad)] S w',?_,?_⟩
 ·refine dI (by omega) ?_
  repeat (first|refine ac ?_|refine af (by decide) ?_|refine ab ?_|refine al ?_|refine ak ?_)
  refine dI (by omega) ?_
  repeat (first|refine ac ?_|refine af (by decide) ?_|refine ab ?_|refine al ?_|refine ak ?_)
  refine ek a7 ?_
  refine kS (by omega) ?_
  repeat (first|refine ac ?_|refine af (by decide) ?_|refine ab ?_|refine al ?_|refine ak ?_)
  exact ⟨rfl,hI⟩
 intro t23 _ _ _ _ _ _ _ _ _ _ _ w'
 rintro ⟨rfl,hI⟩
 refine aX (fun hb=>by cases hb) (fun _=>?_)
 refine ⟨fun b w'=>b=.bool (upp s i)/\Inv w [] [.blk b6 (.cells #[.int .i64 0,.int .i64 0,.string ⟨#[]⟩,.slice none 0 0] ad)] S w',?_,?_⟩
 ·refine dn a7 hlt ?_
  by_cases h65:65<=s[i].toNat
  ·refine i6 (by omega) ?_
   repeat (first|refine ac ?_|refine af (by decide) ?_|refine ab ?_|refine al ?_|refine ak ?_)
   refine dn a7 hlt ?_
   refine fI ?_
   repeat (first|refine ac ?_|refine af (by decide) ?_|refine ab ?_|refine al ?_|refine ak ?_)
   refine ⟨?_,hI⟩
   rw [upp,gK hlt,decide_eq_true h65,Bool.true_and]
   congr 1
   rw [decide_eq_decide]
   omega
  ·refine kS (by omega) ?_
   repeat (first|refine ac ?_|refine af (by decide) ?_|refine ab ?_|refine al ?_|refine ak ?_)
   exact ⟨by rw [upp,gK hlt,decide_eq_false h65,Bool.false_and],hI⟩
 intro t34 _ _ _ _ _ _ _ _ _ w'
 rintro ⟨rfl,hI⟩
 split at h
 ·rename_i hup
  simp only [Option.some.injEq,Prod.mk.injEq] at h
  obtain ⟨rfl,rfl⟩:=h
  rw [hup]
  rw [upp,gK hlt,Bool.and_eq_true,decide_eq_true_eq,decide_eq_true_eq] at hup
  refine aX (fun _=>?_) (fun hb=>by cases hb)
  refine dn a7 hlt ?_
  refine BZ (c:=(s[i].toNat:Int) - 65) (IntWalk.u8_in _ (by omega)) ?_
  refine jV eM gJ (IntWalk.i64_in _ (by omega)) ?_
  refine Run.callPure uM tF hI (mU _ S) fun w' hI=>?_
  refine dx (a:=i) (b:=1) rfl rfl (by omega) ?_
  refine bd hI 0 rfl ai rfl rfl (by simp [Value.oneCell']) fun w' hI=>?_
  refine cz hI 0 ai rfl rfl ?_
  have eg:((s.getD i 0).toNat:Int) - 65=(s[i].toNat:Int) - 65:=by rw [List.getD_eq_getElem?_getD,List.getElem?_eq_getElem hlt]; rfl
  rw [eg]
  exact ⟨_,[],S,rfl,hI.nil,Ext.refl _ _ _,rfl,_,rfl,RdT.nil (by simp [inI]) (by unfold inI; omega) (by decide +kernel) (Nat.zero_le _)⟩
 rename_i hup
 rw [Bool.eq_false_iff.2 hup]
 refine aX (fun hb=>by cases hb) (fun _=>?_)
 refine ⟨fun b w'=>b=.bool (dig s i || (sgn s i 45 && dig s (i+1)))/\Inv w [] [.blk b6 (.cells #[.int .i64 0,.int .i64 0,.string ⟨#[]⟩,.slice none 0 0] ad)] S w',?_,?_⟩
 ·refine Run.callPure fg fc hI (dR s i S) fun w' hI=>?_
  cases hdi:dig s i
  ·repeat (first|refine ac ?_|refine af (by decide) ?_|refine ab ?_|refine al ?_|refine ak ?_)
   refine dn a7 hlt ?_
   by_cases h45:s[i].toNat=45
   ·refine eH (by omega) ?_
    repeat (first|refine ac ?_|refine af (by decide) ?_|refine ab ?_|refine al ?_|refine ak ?_)
    refine dx (a:=i) (b:=1) rfl rfl (by omega) ?_
    refine Run.callPure fg fc hI (dR s (i+1) S) fun w' hI=>?_
    repeat (first|refine ac ?_|refine af (by decide) ?_|refine ab ?_|refine al ?_|refine ak ?_)
    exact ⟨by rw [fU hlt,decide_eq_true h45,Bool.true_and,Bool.false_or],hI⟩
   ·refine dw (by omega) ?_
    repeat (first|refine ac ?_|refine af (by decide) ?_|refine ab ?_|refine al ?_|refine ak ?_)
    exact ⟨by rw [fU hlt,decide_eq_false h45,Bool.false_and,Bool.false_or],hI⟩
  ·repeat (first|refine ac ?_|refine af (by decide) ?_|refine ab ?_|refine al ?_|refine ak ?_)
   exact ⟨by rw [Bool.true_or],hI⟩
 intro t57 _ _ _ _ _ _ _ _ _ _ _ _ _ _ w'
 rintro ⟨rfl,hI⟩
 split at h
 ·cases h
 rename_i hdg
 have:(dig s i || (sgn s i 45 && dig s (i+1)))=false:=by
  rw [Bool.eq_false_iff,ne_eq,Bool.or_eq_true,Bool.and_eq_true]; exact hdg
 rw [this]
 refine aX (fun hb=>by cases hb) (fun _=>?_)
 split at h
 ·cases h
 rename_i h91
 rw [fU hlt,decide_eq_true_eq] at h91
 refine ⟨fun b w'=>b=.bool false/\Inv w [] [.blk b6 (.cells #[.int .i64 0,.int .i64 0,.string ⟨#[]⟩,.slice none 0 0] ad)] S w',?_,?_⟩
 ·refine dn a7 hlt ?_
  refine dw (by omega) ?_
  repeat (first|refine ac ?_|refine af (by decide) ?_|refine ab ?_|refine al ?_|refine ak ?_)
  exact ⟨rfl,hI⟩
 intro t73 _ _ _ _ _ _ _ _ _ _ w'
 rintro ⟨rfl,hI⟩
 refine aX (fun hb=>by cases hb) (fun _=>?_)
 refine Run.callPure lE l2 hI (j4 hlt hs S) fun w' hI=>?_
 cases hnm:kl s i with
 | none=>rw [hnm] at h; cases h
 | some q=>
 obtain ⟨name,m⟩:=q
 rw [hnm] at h
 simp only [] at h
 simp only [y4]
 have hnl:=jC hlt hnm
 refine a5 (v:=.string (st name)) rfl ?_
 refine a5 (v:=.int .i64 (m:Int)) rfl ?_
 refine ⟨fun b w'=>b=.bool (!sgn s m 40)/\Inv w [] [.blk b6 (.cells #[.int .i64 0,.int .i64 0,.string ⟨#[]⟩,.slice none 0 0] ad)] S w',?_,?_⟩
 ·refine dI (by omega) ?_
  repeat (first|refine ac ?_|refine af (by decide) ?_|refine ab ?_|refine al ?_|refine ak ?_)
  refine Run.callPure cm cn hI (bG s m 40 S) fun w' hI=>?_
  refine c9 ?_
  repeat (first|refine ac ?_|refine af (by decide) ?_|refine ab ?_|refine al ?_|refine ak ?_)
  exact ⟨rfl,hI⟩
 intro t95 _ _ _ _ _ _ _ w'
 rintro ⟨rfl,hI⟩
 split at h
 ·rename_i h40'
  simp only [Option.some.injEq,Prod.mk.injEq] at h
  obtain ⟨rfl,rfl⟩:=h
  rw [h40']
  refine aX (fun _=>?_) (fun hb=>by cases hb)
  refine Run.call0E eO eN hI (ff (st name) (pC hnl.2.2.1) (py S) (by simp)) fun v I' S2 w'=>?_
  rintro ⟨rfl,cs,rfl,hcs⟩ hE2 hI
  obtain ⟨kv,rfl,_,_,_,a,k,rfl,_⟩:=RdT.iff.1 hcs
  refine bd hI 0 rfl ai rfl rfl (by simp [Value.oneCell']) fun w' hI=>?_
  refine cz hI 0 ai rfl rfl ?_
  exact ⟨_,[],S2,rfl,hI.nil,hE2,rfl,_,rfl,hcs⟩
 ·rename_i h40'
  rw [Bool.not_eq_false] at h40'
  rw [h40']
  refine aX (fun hb=>by cases hb) (fun _=>?_)
  split at h
  ·cases h
  rename_i ts k hts
  simp only [Option.some.injEq,Prod.mk.injEq] at h
  obtain ⟨rfl,rfl⟩:=h
  have hm:=eS h40'
  refine dx (a:=m) (b:=1) rfl rfl (by omega) ?_
  refine p8 (a:=d) (b:=1) rfl rfl (by omega) (by omega) ?_
  refine Run.call0E yX zD hI (hA (m+1) (d - 1) ts k S hts (by omega) (by omega) (by omega)) fun v I' S2 w'=>?_
  rintro ⟨rfl,u,rfl,hu⟩ hE2 hI
  refine a5 (v:=u) rfl ?_
  refine a5 (v:=.int .i64 (k:Int)) rfl ?_
  obtain ⟨a,c,rfl,_⟩:=id hu
  refine i9 ⟨_,_,_,rfl⟩ ?_
  refine bd hI 0 rfl ai rfl rfl (by simp [Value.oneCell']) fun w' hI=>?_
  refine cz hI 0 ai rfl rfl ?_
  exact ⟨_,[],S2,rfl,hI.nil,hE2,rfl,_,rfl,RdT.iff.2 ⟨_,rfl,by simp [inI,T.kind,r9],by simp [inI,T.n,r9],pC hnl.2.2.1,hu⟩⟩
theorem zw {s:Bs} (hs:s.length<=100000) {i d n:Nat} {t:T} {S:av} (h:CG s i=some (t,n)) (hd:2<=d) (hd2:d<=100):Tri Tryz.prog lC [.string (st s),.int .i64 (i:Int),.int .i64 (d:Int)] [] S (BX t n):=
 tQ (m0:=1) (by omega) hs (fun _ _ _ _ _ h=>by cases h) h hd hd2
theorem xV {f:Nat} {s:Bs} (hs:s.length<=100000) {i d n:Nat} {ts:List T} {S:av} (h:wn f s i []=some (ts,n)) (hi:i<=s.length) (hd:2<=d) (hd2:d<=100) :
  Tri Tryz.prog ub [.string (st s),.int .i64 (i:Int),.int .i64 (d:Int)] [] S (EW ts n):=by
 intro w hI
 refine ud ?_
 unfold rD
 refine dL hI bn fun v0 w' hI=>?_
 refine ⟨fun a b w'=>∃ (f' i':Nat) (acc:List T) (S1:av) (css:List (List Value)),a=.int .i64 (i':Int)/\i'<=s.length/\wn f' s i' acc=some (ts,n)/\Ext w.heap.size [] S S1/\Rows 4 (RdT S1) css acc/\Inv w [] [bq b ad 4 css] S1 w',
  fun a _ _=>s.length+1 - (intOf a).toNat,⟨f,i,[],S,[],rfl,hi,h,Ext.refl _ _ _,Rows.nil _ _,hI⟩,?_⟩
 intro t1 _ _ _ _ _ _ _ _ _ _ _ _ _ _ t8 _ _ _ _ _ _ _ _ _ _ _ _ _ _ _ _ w'
 rintro ⟨f',i',acc,S1,css,rfl,hi2,hT,hE,hR,hI⟩
 have hcl:=hR.hc
 cases f' with
 | zero=>simp [wn] at hT
 | succ g=>
 rw [wn] at hT
 split at hT
 ·cases hT
 rename_i hacc
 split at hT
 ·cases hT
 rename_i t n' hr
 have hle:=DC hr
 obtain ⟨Sx,hEx,hrdx,_⟩:=Inv.lendExt (A:=[]) hI
 refine a9 (RowRd.rows (hR.monoR fun _ _ h=>RdT.mono hEx.1 h) hrdx) ay ?_
 refine tT (by omega) ?_
 refine aX (fun _=>?_) (fun hb=>by cases hb)
 refine Run.call0E nI om hI (zw hs hr hd hd2) fun v I' S2 w'=>?_
 rintro ⟨rfl,cs,rfl,hcs⟩ hE2 hI
 have hR2:=hR.monoR fun _ _ h=>RdT.mono hE2.1 h
 obtain ⟨kv,rfl,_,_,_,a,m,rfl,_⟩:=RdT.iff.1 hcs
 refine a5 (v:=.agg _) rfl ?_
 refine a5 (v:=.int .i64 (n':Int)) rfl ?_
 refine bw hI bu fun b13 w' hI=>?_
 refine bd hI 1 rfl ai rfl rfl (by simp [Value.oneCell']) fun w' hI=>?_
 refine a8 hI 1 ai rfl rfl ?_
 refine fi (css:=css) hI 0 _ bn (by omega) (by omega) rfl hcs.length hcs.one (by omega) (by omega) fun v' w' hI=>?_
 have hI:Inv w [] [bq v' ad 4 (css++[[.int .i64 t.kind,.int .i64 t.n,.string t.name,.slice a t.kids.length m]])] S2 w':=hI.pick [true,false]
 have hR3:=hR2.snoc hcs hcs.length
 refine Run.callPure cm cn hI (bG s n' 41 S2) fun w' hI=>?_
 refine aX (fun hb=>?_) (fun hb=>?_)
 ·rw [if_pos hb] at hT
  simp only [Option.some.injEq,Prod.mk.injEq] at hT
  obtain ⟨rfl,rfl⟩:=hT
  refine dx (a:=n') (b:=1) rfl rfl (by omega) ?_
  obtain ⟨S3,hE3,hrd,hI⟩:=Inv.lendExt (A:=[]) hI
  have hrs:=RowRd.rows (hR3.monoR fun _ _ h=>RdT.mono hE3.1 h) hrd
  exact ⟨_,[],S3,rfl,hI,(hE.trans hE2).trans hE3,rfl,_,rfl,hrs⟩
 ·rw [if_neg (by rw [hb]; decide)] at hT
  split at hT
  ·rename_i h44
   refine Run.callPure cm cn hI (bG s n' 44 S2) fun w' hI=>?_
   refine c9 ?_
   rw [h44]
   refine aX (fun hb=>by cases hb) (fun _=>?_)
   have:=eS h44
   refine dx (a:=n') (b:=1) rfl rfl (by omega) ?_
   refine ⟨⟨g,n'+1,acc++[t],S2,css++[[.int .i64 t.kind,.int .i64 t.n,.string t.name,.slice a t.kids.length m]],rfl,by omega,hT,hE.trans hE2,hR3,hI⟩,?_⟩
   simp only [intOf,Int.toNat_natCast]
   omega
  ·cases hT
theorem z5 {s:Bs} (hs:s.length<=100000) {i n:Nat} {t:T} {S:av} (h:EE s i=some (t,n)):Tri Tryz.prog lC [.string (st s),.int .i64 (i:Int),.int .i64 ((30:Nat):Int)] [] S (BX t n):=
 tQ (m0:=2) (by omega) hs (fun _ _ _ _ _ h hi hd hd2=>xV hs h hi (by omega) hd2) h (by omega) (by omega)
end
end Go.Proofs.YtemmhhdnlbmicaaGreat
