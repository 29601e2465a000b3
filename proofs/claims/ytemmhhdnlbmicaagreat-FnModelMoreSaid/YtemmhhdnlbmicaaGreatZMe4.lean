/- Texts read: spec.l1Struct, l1Chain, l2Read, l2Prime, l2Terms, l2Items. (printed by gen_read.py) -/
import Derived.Test.YtemmhhdnlbmicaaGreatZMe3
import Derived.Test.YtemmhhdnlbmicaaGreatZMe2
namespace Go.Proofs.YtemmhhdnlbmicaaGreat
open Go Go.RowKit
theorem LX {s:Bs} {i e:Nat} {t:T} (hn:Kj s i=some (t,e)):i<e/\e<=s.length:=by
 unfold Kj at hn
 obtain ⟨fr,hfr⟩:∃ fr,fr=if sgn s i 45=true then i+1 else i:=⟨_,rfl⟩
 simp only [<- hfr] at hn
 have hle:=Dh s 4 fr
 have hfi:i<=fr/\fr<=i+1:=by rw [hfr]; split <;> omega
 split at hn
 ·cases hn
 rename_i hc
 simp only [not_or] at hc
 simp only [Option.some.injEq,Prod.mk.injEq] at hn
 obtain ⟨_,rfl⟩:=hn
 have h2:fr<pu s 4 fr:=by
  rcases Nat.lt_or_ge fr (pu s 4 fr) with h|h
  ·exact h
  ·refine absurd ?_ hc.1
   rw [cut,List.drop_eq_nil_of_le]
   rw [List.length_take]
   omega
 have:=y4 (td s 4 fr (pu s 4 fr - 1) (by omega) (by omega))
 omega
theorem gH:∀ f:Nat,(∀ s i d l t n,iE f s i d l=some (t,n)->i<n/\n<=s.length)/\(∀ s i d l t0 t n,FI f s i d l t0=some (t,n)->i<=s.length->i<=n/\n<=s.length)/\
  (∀ s i d t n,qJ f s i d=some (t,n)->i<n/\n<=s.length)/\(∀ s i d e o acc ts n,gR f s i d e o acc=some (ts,n)->i<n/\n<s.length)
 | 0=>⟨fun s i d l t n h=>by simp [iE] at h,fun s i d l t0 t n h=>by simp [FI] at h,fun s i d t n h=>by simp [qJ] at h,fun s i d e o acc ts n h=>by simp [gR] at h⟩
 | f+1=>by
  obtain ⟨h1,h2,h3,h4⟩:=gH f
  refine ⟨fun s i d l t n h=>?_,fun s i d l t0 t n h hi=>?_,fun s i d t n h=>?_,fun s i d e o acc ts n h=>?_⟩
  ·cases l with
   | zero=>rw [iE] at h; exact h3 _ _ _ _ _ h
   | succ l=>
    rw [iE] at h
    split at h
    ·cases h
    ·rename_i t' n' hr
     have a:=h1 _ _ _ _ _ _ hr
     have b:=h2 _ _ _ _ _ _ _ h a.2
     omega
  ·rw [FI] at h
   split at h
   ·simp only [Option.some.injEq,Prod.mk.injEq] at h
    omega
   ·rename_i name after ho
    have a:=Kt ho
    split at h
    ·split at h
     ·cases h
     ·rename_i r e hr
      have b:=h1 _ _ _ _ _ _ hr
      split at h
      ·simp only [Option.some.injEq,Prod.mk.injEq] at h
       omega
      ·have c:=h2 _ _ _ _ _ _ _ h b.2
       omega
    ·simp only [Option.some.injEq,Prod.mk.injEq] at h
     omega
  ·rw [qJ] at h
   split at h
   ·cases h
   rename_i h0
   have h0:i<s.length:=by omega
   split at h
   ·split at h
    ·cases h
    ·rename_i t' n' hr
     have a:=h1 _ _ _ _ _ _ hr
     split at h
     ·rename_i hs
      have:=gU hs
      simp only [Option.some.injEq,Prod.mk.injEq] at h
      omega
     ·cases h
   ·split at h
    ·split at h
     ·cases h
     ·rename_i ts n' hr
      have a:=h4 _ _ _ _ _ _ _ _ hr
      split at h
      ·simp only [Option.some.injEq,Prod.mk.injEq] at h
       omega
      ·split at h
       ·cases h
       ·rename_i t' e hr2
        have b:=h1 _ _ _ _ _ _ hr2
        split at h
        ·rename_i hs
         have:=gU hs
         simp only [Option.some.injEq,Prod.mk.injEq] at h
         omega
        ·cases h
    ·split at h
     ·simp only [Option.some.injEq,Prod.mk.injEq] at h
      omega
     ·split at h
      ·exact LX h
      ·split at h
       ·cases h
       ·rename_i name n' hn
        have a:=sP h0 hn
        split at h
        ·simp only [Option.some.injEq,Prod.mk.injEq] at h
         omega
        ·split at h
         ·cases h
         ·rename_i ts e hr
          have b:=h4 _ _ _ _ _ _ _ _ hr
          simp only [Option.some.injEq,Prod.mk.injEq] at h
          omega
  ·rw [gR] at h
   split at h
   ·cases h
   ·rename_i t' n' hr
    have a:=h1 _ _ _ _ _ _ hr
    split at h
    ·rename_i hs
     have hlt:n'<s.length:=hs.elim gU gU
     simp only [Option.some.injEq,Prod.mk.injEq] at h
     omega
    ·split at h
     ·have b:=h4 _ _ _ _ _ _ _ _ h
      omega
     ·cases h
abbrev M7 (t:T):Value->List Item->aF->Prop:=fun v I' S'=>I'=[]/\∃ cs,v=.agg cs.toArray/\RdT S' cs t
abbrev K3 (t:T) (n:Nat):Value->List Item->aF->Prop:=fun v I' S'=>I'=[]/\∃ cs,v=.tuple #[.agg cs.toArray,.int .i64 (n:Int)]/\RdT S' cs t
abbrev Me (ts:List T) (n:Nat):Value->List Item->aF->Prop:=fun v I' S'=>I'=[]/\∃ u,v=.tuple #[u,.int .i64 (n:Int)]/\RdSl S' 4 (RdT S') u ts
theorem ja (S:aF):RdSl S 4 (RdT S) (.slice none 0 0) []:=⟨none,0,rfl,Nat.le_refl _,Nat.zero_le _,.inl rfl⟩
theorem H9 {S:aF} {b:Nat} {E:TypeId} {a c:T} {k1 n1 k2 n2:Int} {s1 s2:ByteArray} {v1 v2:Value} (hS:S b=some (.cells #[.int .i64 k1,.int .i64 n1,.string s1,v1,.int .i64 k2,.int .i64 n2,.string s2,v2] E))
  (h1:RdT S [.int .i64 k1,.int .i64 n1,.string s1,v1] a) (h2:RdT S [.int .i64 k2,.int .i64 n2,.string s2,v2] c):RdSl S 4 (RdT S) (.slice (some ⟨b,0,none⟩) 2 2) [a,c]:=by
 refine ⟨_,2,rfl,Nat.le_refl _,by simp [maxLen],.inr ⟨b,0,_,E,(0,0),rfl,hS,fun i hi=>?_⟩⟩
 match i,hi with
 | 0,_=>exact h1
 | 1,_=>exact h2
section
variable {w w0:World} {X:List Nat} {L:List Item} {S:aF} {K:Value->World->Prop}
attribute [local irreducible] Run CondV ah be
theorem fj {P:Program} {T:TypeId} {cx cy:Bool} {x y:Int} {a b:Nat} (hx:x=a) (hy:y=b) (hr:a+b<=1000000000000000) (hk:K (.int .i64 ((a+b:Nat):Int)) w):Run P (ar .add T cx cy (.int .i64 x) (.int .i64 y)) w K:=by
 subst hx hy
 refine bN (by omega) ?_
 rw [<- Int.natCast_add]
 exact hk
theorem y7 {P:Program} {T:TypeId} {cx cy:Bool} {x y:Int} {a b:Nat} (hx:x=a) (hy:y=b) (hle:b<=a) (hr:a<=1000000000000000) (hk:K (.int .i64 ((a - b:Nat):Int)) w):Run P (ar .sub T cx cy (.int .i64 x) (.int .i64 y)) w K:=by
 subst hx hy
 refine pO (by omega) ?_
 rw [<- Int.ofNat_sub hle]
 exact hk
theorem pZ {s:ByteArray} {v:Value} (hv:∃ p n m,v=.slice p n m) (hk:K (.agg #[.int .i64 3,.int .i64 0,.string s,v]) w):Run Tryz.prog (dD ab [(0,.int .i64 3),(2,.string s),(3,v)]) w K:=by
 obtain ⟨p,n,m,rfl⟩:=hv
 refine Run.of (v:=.agg #[.int .i64 3,.int .i64 0,.string s,.slice p n m]) (w':=w) ?_ hk
 unfold dD
 rw [Sem.run_bind,run_build w ab _ #[.int .i64 3,.int .i64 0,.string s,.slice p n m] (by kernel_rfl),Result.andThen_ok]
 rfl
theorem si (s:ByteArray) {ks:List T} {u:Value} (h:RdSl S 4 (RdT S) u ks) (hk:ks.length<=1000000):Tri Tryz.prog sg [.string s,u] [] S fun v I' S'=>S'=S/\∃ kv css,v=.agg #[.int .i64 3,.int .i64 0,.string s,kv]/\I'=[bh kv ab 4 css]/\Rows 4 (RdT S) css ks:=by
 intro w hI
 refine uu ?_
 unfold pT
 refine bH hI bL fun b4 w' hI=>?_
 refine eO hI bK fun v0 w' hI=>?_
 have hI:Inv w [] [.blk b4 (.cells #[.int .i64 0,.int .i64 0,.string ⟨#[]⟩,.slice none 0 0] ab),bh v0 ab 4 []] S w':=hI
 refine gL hI 1 (css:=[]) bK (by omega) rfl h (fun _ _=>RdT.length) (fun _ _=>RdT.one) (by simp; omega) (by omega) fun v' w' css2 hR hI=>?_
 have hI:Inv w [] [.blk b4 (.cells #[.int .i64 0,.int .i64 0,.string ⟨#[]⟩,.slice none 0 0] ab),bh v' ab 4 css2] S w':=hI
 obtain ⟨a,n,c,rfl⟩:=hI.rowSlice 1 rfl
 refine pZ ⟨_,_,_,rfl⟩ ?_
 refine bg hI 0 rfl ao rfl rfl (by simp [Value.oneCell']) fun w' hI=>?_
 refine cG hI 0 ao rfl rfl ?_
 exact ⟨_,_,_,rfl,hI.sub (List.sublist_cons_self _ _),Ext.refl _ _ _,rfl,_,css2,rfl,rfl,hR⟩
theorem eC (s:ByteArray) (hs:s.size<=maxLen) {ks:List T} {u:Value} (h:RdSl S 4 (RdT S) u ks) (hk:ks.length<=1000000):Tri Tryz.prog sg [.string s,u] [] S (M7 (.mk 3 0 s ks)):=by
 intro w hI
 refine (si s h hk w hI).mono ?_
 rintro e w' ⟨v,I',S',rfl,hI,hE,rfl,kv,css,rfl,rfl,hR⟩
 obtain ⟨S1,hE1,hrd,hI⟩:=Inv.lendExt (A:=[]) hI
 have hrs:=RowRd.rows (hR.monoR fun _ _ h=>RdT.mono hE1.1 h) hrd
 exact ⟨_,[],S1,rfl,hI,hE.trans hE1,rfl,[.int .i64 3,.int .i64 0,.string s,kv],rfl,RdT.iff.2 ⟨kv,rfl,by simp [inI,T.kind],by simp [inI,T.n],hs,hrs⟩⟩
theorem Gz {ts:List T} {j:Nat} (h:j<ts.length) (t:T):hZ (ts.drop j) t=FZ ts[j] (hZ (ts.drop (j+1)) t):=by
 rw [List.drop_eq_getElem_cons h,hZ]
theorem pM {ts:List T} {t:T} {u:Value} {cs:List Value} (h:RdSl S 4 (RdT S) u ts) (ht:RdT S cs t) (hl:ts.length<=1000000):Tri Tryz.prog E4 [u,.agg cs.toArray] [] S (M7 (hZ ts t)):=by
 intro w hI
 obtain ⟨kv,rfl,g1,g2,g3,g4⟩:=RdT.iff.1 ht
 obtain ⟨ka,kn,kc,hkv⟩:∃ a n m,kv=.slice a n m:=by
  obtain ⟨a,m,e,_⟩:=g4
  exact ⟨_,_,_,e⟩
 refine xl ?_
 unfold rt
 refine bQ hI fun b3 w' hI=>?_
 refine bH hI bL fun b4 w' hI=>?_
 refine bb hI 0 ao rfl rfl ?_
 refine bH hI bL fun b5 w' hI=>?_
 refine bg hI 2 rfl ao rfl rfl (by simp [Value.oneCell',Value.cells,hkv]) fun w' hI=>?_
 refine a9 h ay ?_
 refine pO (by omega) ?_
 obtain ⟨B3,hB3⟩:∃ B3,B3=Item.blk b3 (.cells #[.int .i64 t.kind,.int .i64 t.n,.string t.name,kv] ab):=⟨_,rfl⟩
 have hI:Inv w [] [B3,.blk b4 (.cells #[.int .i64 0,.int .i64 0,.string ⟨#[]⟩,.slice none 0 0] ab),.blk b5 (.cells #[.int .i64 t.kind,.int .i64 t.n,.string t.name,kv] ab)] S w':=by rw [hB3]; exact hI
 refine ⟨fun i w'=>∃ (j:Nat) (S1:aF) (ds:List Value),j<=ts.length/\i=.int .i64 ((j:Int) - 1)/\Ext w.heap.size [] S S1/\RdT S1 ds (hZ (ts.drop j) t)/\Inv w [] [B3,.blk b4 (.cells #[.int .i64 0,.int .i64 0,.string ⟨#[]⟩,.slice none 0 0] ab),.blk b5 (.cells ds.toArray ab)] S1 w',
  fun i _=>(intOf i+1).toNat,⟨ts.length,S,_,Nat.le_refl _,rfl,Ext.refl _ _ _,by rw [List.drop_length]; exact ht,hI⟩,?_⟩
 intro t6 _ _ t21 t20 t19 t18 t17 t16 t15 _ _ w'
 rintro ⟨j,S1,ds,hj,rfl,hE,hds,hI⟩
 by_cases hj0:j=0
 ·subst hj0
  refine uQ (by omega) ?_
  refine ba (fun hb=>by cases hb) (fun _=>?_)
  obtain ⟨kv',rfl,_,_,_,a,m,rfl,_⟩:=RdT.iff.1 hds
  refine bb hI 2 ao rfl rfl ?_
  refine bg hI 1 rfl ao rfl rfl (by simp [Value.oneCell']) fun w' hI=>?_
  refine cG hI 1 ao rfl rfl ?_
  exact ⟨_,_,_,rfl,hI.nil,hE,rfl,_,rfl,hds⟩
 ·refine l7 (by omega) ?_
  refine ba (fun _=>?_) (fun hb=>by cases hb)
  obtain ⟨m,rfl⟩:∃ m,j=m+1:=⟨j - 1,by omega⟩
  have hm:m<ts.length:=by omega
  have ej:((m+1:Nat):Int) - 1=(m:Int):=by omega
  rw [ej]
  obtain ⟨b,o,cap,c,E,fz,rfl,hS,hR⟩:=(h.monoT hE.1).at_ hm
  obtain ⟨ka',hca,_,_,_,aa,am,hka',_⟩:=RdT.iff.1 hR
  subst hka'
  obtain ⟨kd,rfl,_,_,_,da,dm,rfl,_⟩:=RdT.iff.1 hds
  obtain ⟨o1,ho1⟩:∃ o1,o1=hZ (ts.drop (m+1)) t:=⟨_,rfl⟩
  rw [<- ho1] at hds hI
  obtain ⟨a1,ha1⟩:∃ a1,a1=ts[m]:=⟨_,rfl⟩
  rw [<- ha1] at hR hca
  skip
  refine ⟨fun D cC cc bY du dw dF eH w_=>(D 0=true->eH=.slice (some ⟨b,o,none⟩) ts.length cap)/\(D 1=true->dF=.int .i64 (m:Int))/\(D 2=true->dw=.pointer (some ⟨b,o+m * 4,none⟩))/\(D 3=true->du=.agg #[.int .i64 a1.kind,.int .i64 a1.n,.string a1.name,.slice aa a1.kids.length am])/\(D 4=true->bY=.agg #[.int .i64 o1.kind,.int .i64 o1.n,.string o1.name,.slice da o1.kids.length dm])/\(D 5=true->True)/\(D 6=true->True)/\(D 7=true->True)/\∃ S2 c6,Ext w.heap.size [] S1 S2/\(D 5=true->RdSl S2 4 (RdT S2) cc [a1,o1])/\(D 6=true->cC=.agg c6.toArray/\RdT S2 c6 (FZ a1 o1))/\(D 7=true->D 6=true)/\(D 6=true->D 5=true)/\(D 5=true->D 4=true)/\Inv w [] [B3,.blk b4 (.cells #[.int .i64 0,.int .i64 0,.string ⟨#[]⟩,.slice none 0 0] ab),.blk b5 (.cells (match D 7 with|true=>c6.toArray|false=>#[.int .i64 o1.kind,.int .i64 o1.n,.string o1.name,.slice da o1.kids.length dm]) ab)] S2 w_,⟨ae,ae,ae,ae,ae,ae,ae,ae,⟨S1,[],Ext.refl _ _ _,ae,ae,ae,ae,ae,hI.draw⟩⟩,⟨?_,?_,?_,?_,?_,?_,?_,?_,trivial⟩,?_⟩
  ·intro D aY  cC cc bY du dw dF eH w_
   rintro ⟨aA,aB,aC,az,av,aE,aD,aH,⟨S2,c6,hE2,e5,e6,k7,k6,k5,hI⟩⟩
   exact ⟨fun _=>rfl,aB,aC,az,av,aE,aD,aH,⟨S2,c6,hE2,e5,e6,k7,k6,k5,hI⟩⟩
  ·intro D aY  cC cc bY du dw dF eH w_
   rintro ⟨aA,aB,aC,az,av,aE,aD,aH,⟨S2,c6,hE2,e5,e6,k7,k6,k5,hI⟩⟩
   exact ⟨aA,fun _=>rfl,aC,az,av,aE,aD,aH,⟨S2,c6,hE2,e5,e6,k7,k6,k5,hI⟩⟩
  ·intro D aY b0 il cC cc bY du dw dF eH w_
   rintro ⟨aA,aB,aC,az,av,aE,aD,aH,⟨S2,c6,hE2,e5,e6,k7,k6,k5,hI⟩⟩
   obtain rfl:=aA b0
   obtain rfl:=aB il
   refine bk ay hm ?_
   exact ⟨aA,aB,fun _=>rfl,az,av,aE,aD,aH,⟨S2,c6,hE2,e5,e6,k7,k6,k5,hI⟩⟩
  ·intro D aY ec cC cc bY du dw dF eH w_
   rintro ⟨aA,aB,aC,az,av,aE,aD,aH,⟨S2,c6,hE2,e5,e6,k7,k6,k5,hI⟩⟩
   obtain rfl:=aC ec
   refine cU (cs:=[.int .i64 a1.kind,.int .i64 a1.n,.string a1.name,.slice aa a1.kids.length am]) ao rfl (fun j v hj=>by rw [hI.cellS (hE2.1 _ _ hS)]; exact bn hca j v hj) ?_
   exact ⟨aA,aB,aC,fun _=>rfl,av,aE,aD,aH,⟨S2,c6,hE2,e5,e6,k7,k6,k5,hI⟩⟩
  ·intro D aY  cC cc bY du dw dF eH w_
   rintro ⟨aA,aB,aC,az,av,aE,aD,aH,⟨S2,c6,hE2,e5,e6,k7,k6,k5,hI⟩⟩
   have f5:D 5=false:=Bool.eq_false_iff.2 fun h=>by rw [k5 h] at aY; cases aY
   have f6:D 6=false:=Bool.eq_false_iff.2 fun h=>by rw [k6 h] at f5; cases f5
   have f7:D 7=false:=Bool.eq_false_iff.2 fun h=>by rw [k7 h] at f6; cases f6
   have hI0:=hI
   rw [f7] at hI
   refine bb hI 2 ao rfl rfl ?_
   have hI:=hI0
   have k5:=fun (_:aw D 4 5=true)=>(rfl:aw D 4 4=true)
   exact ⟨aA,aB,aC,az,fun _=>rfl,aE,aD,aH,⟨S2,c6,hE2,e5,e6,k7,k6,k5,hI⟩⟩
  ·intro D aY dB dM cC cc bY du dw dF eH w_
   rintro ⟨aA,aB,aC,az,av,aE,aD,aH,⟨S2,c6,hE2,e5,e6,k7,k6,k5,hI⟩⟩
   obtain rfl:=az dB
   obtain rfl:=av dM
   have f6:D 6=false:=Bool.eq_false_iff.2 fun h=>by rw [k6 h] at aY; cases aY
   have f7:D 7=false:=Bool.eq_false_iff.2 fun h=>by rw [k7 h] at f6; cases f6
   rw [f7] at hI
   refine qd (v:=fun b=>.slice (some ⟨b,0,none⟩) 2 2) (o:=.cells #[.int .i64 a1.kind,.int .i64 a1.n,.string a1.name,.slice aa a1.kids.length am,.int .i64 o1.kind,.int .i64 o1.n,.string o1.name,.slice da o1.kids.length dm] ab) hI (by kernel_rfl) fun b20 w_ hI=>?_
   obtain ⟨S2,hI,hE3,hS3⟩:=Inv.pub1 (A:=[_,_,_]) hI
   have hE2:=hE2.trans hE3
   have hR':RdT S2 [.int .i64 a1.kind,.int .i64 a1.n,.string a1.name,.slice aa a1.kids.length am] a1:=by
    have:=RdT.mono hE2.1 hR
    rwa [hca] at this
   have e5:=fun (_:aw D 5 5=true)=>H9 hS3 hR' (RdT.mono hE2.1 hds)
   have e6:=fun (h:D 6=true)=>(absurd h (by rw [f6]; decide):cC=.agg c6.toArray/\RdT S2 c6 (FZ a1 o1))
   have k6:=fun (_:aw D 5 6=true)=>(rfl:aw D 5 5=true)
   have k5:=fun (_:aw D 5 5=true)=>dM
   have hI:Inv w [] [B3,.blk b4 (.cells #[.int .i64 0,.int .i64 0,.string ⟨#[]⟩,.slice none 0 0] ab),.blk b5 (.cells (match D 7 with|true=>c6.toArray|false=>#[.int .i64 o1.kind,.int .i64 o1.n,.string o1.name,.slice da o1.kids.length dm]) ab)] S2 w_:=by
    rw [f7]
    exact hI
   exact ⟨aA,aB,aC,az,av,fun _=>by first|assumption|trivial,aD,aH,⟨S2,c6,hE2,e5,e6,k7,k6,k5,hI⟩⟩
  ·intro D aY dT cC cc bY du dw dF eH w_
   rintro ⟨aA,aB,aC,az,av,aE,aD,aH,⟨S2,c6,hE2,e5,e6,k7,k6,k5,hI⟩⟩
   have LM:=aE dT
   have f7:D 7=false:=Bool.eq_false_iff.2 fun h=>by rw [k7 h] at aY; cases aY
   rw [f7] at hI
   refine Run.call0E dP dR hI (eC ⟨#[46]⟩ (by decide +kernel) (e5 dT) (by simp)) fun v' I' S2 w_=>?_
   rintro ⟨rfl,c6,rfl,hc6⟩ hE3 hI
   have hE2:=hE2.trans hE3
   have e5:=fun (h:D 5=true)=>(e5 h).monoT hE3.1
   have e6:aw D 6 6=true->Value.agg c6.toArray=Value.agg c6.toArray/\RdT S2 c6 (FZ a1 o1):=fun _=>⟨rfl,hc6⟩
   have k7:=fun (_:aw D 6 7=true)=>(rfl:aw D 6 6=true)
   have k6:=fun (_:aw D 6 6=true)=>dT
   have hI:Inv w [] [B3,.blk b4 (.cells #[.int .i64 0,.int .i64 0,.string ⟨#[]⟩,.slice none 0 0] ab),.blk b5 (.cells (match D 7 with|true=>c6.toArray|false=>#[.int .i64 o1.kind,.int .i64 o1.n,.string o1.name,.slice da o1.kids.length dm]) ab)] S2 w_:=by
    rw [f7]
    exact hI
   exact ⟨aA,aB,aC,az,av,aE,fun _=>by first|assumption|trivial,aH,⟨S2,c6,hE2,e5,e6,k7,k6,k5,hI⟩⟩
  ·intro D aY cJ f0 nY tb s0 qY s5 xu wt cC cc bY du dw dF eH w_
   rintro ⟨aA,aB,aC,az,av,aE,aD,aH,⟨S2,c6,hE2,e5,e6,k7,k6,k5,hI⟩⟩
   have L4:=aD cJ
   obtain ⟨q6,hc6⟩:=e6 cJ
   subst q6
   rw [aY] at hI
   have hone:=hc6.one
   have hlen:=hc6.length
   refine bg hI 2 rfl ao (by simpa using hlen) rfl (by simpa using hone) fun w_ hI=>?_
   have k7:=fun (_:aw D 7 7=true)=>cJ
   exact ⟨aA,aB,aC,az,av,aE,aD,fun _=>trivial,⟨S2,c6,hE2,e5,e6,k7,k6,k5,hI⟩⟩
  intro D fK fL fH fC fB fE fM fJ cC cc bY du dw dF eH w_
  rintro ⟨aA,aB,aC,az,av,aE,aD,aH,⟨S2,c6,hE2,e5,e6,k7,k6,k5,hI⟩⟩
  have L4:=aD fL
  have LM:=aE fH
  obtain rfl:=av fC
  obtain rfl:=az fB
  obtain rfl:=aC fE
  obtain rfl:=aB fM
  obtain rfl:=aA fJ
  clear aA aB aC az av aE aD aH
  rw [fK] at hI
  obtain ⟨_,hc6⟩:=e6 fL
  refine pO (by omega) ?_
  refine ⟨⟨m,S2,c6,by omega,rfl,hE.trans hE2,?_,hI⟩,by simp [intOf]⟩
  rw [Gz hm,<- ha1,<- ho1]
  exact hc6
end
def na (f:Nat):Prop:=∀ (s:Bs) (i d l:Nat) (t:T) (n:Nat) (S:aF),iE f s i d l=some (t,n)->s.length<=100000->i<=s.length->d<=100->l<=3->
 Tri Tryz.prog GG [.string (st s),.int .i64 (i:Int),.int .i64 (d:Int),.int .i64 (l:Int)] [] S (K3 t n)
def CC (f:Nat):Prop:=∀ (s:Bs) (i d:Nat) (t:T) (n:Nat) (S:aF),qJ f s i d=some (t,n)->s.length<=100000->i<=s.length->d<=100->
 Tri Tryz.prog Gr [.string (st s),.int .i64 (i:Int),.int .i64 (d:Int)] [] S (K3 t n)
def su (f:Nat):Prop:=∀ (s:Bs) (i d e o:Nat) (ts:List T) (n:Nat) (S:aF),gR f s i d e o []=some (ts,n)->s.length<=100000->i<=s.length->d<=100->
 Tri Tryz.prog E5 [.string (st s),.int .i64 (i:Int),.int .i64 (d:Int),.int .u8 (e:Int),.int .u8 (o:Int)] [] S (Me ts n)
theorem Cx:∀ (f:Nat) (s:Bs) (i d e o:Nat) (acc ts:List T) (n:Nat),gR f s i d e o acc=some (ts,n)->ts.length+i<=acc.length+n
 | 0,s,i,d,e,o,acc,ts,n,h=>by simp [gR] at h
 | f+1,s,i,d,e,o,acc,ts,n,h=>by
  rw [gR] at h
  split at h
  ·cases h
  ·rename_i t' n' hr
   have a:=(gH f).1 _ _ _ _ _ _ hr
   split at h
   ·simp only [Option.some.injEq,Prod.mk.injEq] at h
    obtain ⟨rfl,rfl⟩:=h
    rw [List.length_append]
    simp only [List.length_cons,List.length_nil]
    omega
   ·split at h
    ·have b:=Cx f _ _ _ _ _ _ _ _ h
     rw [List.length_append] at b
     simp only [List.length_cons,List.length_nil] at b
     omega
    ·cases h
section
attribute [local irreducible] Run CondV ah be
theorem Kz {f:Nat} (ih:∀ g,g<f->na g):su f:=by
 intro s i d e o ts n S h hs hi hd w hI
 refine wY ?_
 unfold sy
 refine eO hI bK fun v0 w' hI=>?_
 refine ⟨fun a b w'=>∃ (f' i':Nat) (acc:List T) (S1:aF) (css:List (List Value)),f'<=f/\a=.int .i64 (i':Int)/\i<=i'/\i'<=s.length/\acc.length+i<=i'/\gR f' s i' d e o acc=some (ts,n)/\Ext w.heap.size [] S S1/\Rows 4 (RdT S1) css acc/\Inv w [] [bh b ab 4 css] S1 w',
  fun a _ _=>s.length+1 - (intOf a).toNat,⟨f,i,[],S,[],Nat.le_refl _,rfl,Nat.le_refl _,hi,by simp,h,Ext.refl _ _ _,Rows.nil _ _,hI⟩,?_⟩
 intro t1 _ _ _ _ _ _ _ _ _ _ _ _ _ _ _ _ _ _ _ _ t12 _ _ _ _ _ _ _ _ _ _ _ _ _ _ _ _ _ _ w'
 rintro ⟨f',i',acc,S1,css,hf',rfl,hi1,hi2,hacc,hT,hE,hR,hI⟩
 have hcl:=hR.hc
 cases f' with
 | zero=>simp [gR] at hT
 | succ g=>
 rw [gR] at hT
 split at hT
 ·cases hT
 rename_i t n' hr
 have hle:=(gH g).1 _ _ _ _ _ _ hr
 refine Run.call0E gk gn hI (ih g (by omega) s i' d 3 t n' S1 hr hs hi2 hd (by omega)) fun v I' S2 w'=>?_
 rintro ⟨rfl,cs,rfl,hcs⟩ hE2 hI
 have hR2:=hR.monoR fun _ _ h=>RdT.mono hE2.1 h
 obtain ⟨kv,rfl,_,_,_,a,m,rfl,_⟩:=RdT.iff.1 hcs
 refine bd (v:=.agg _) rfl ?_
 refine bd (v:=.int .i64 (n':Int)) rfl ?_
 refine bH hI bL fun b13 w' hI=>?_
 refine bg hI 1 rfl ao rfl rfl (by simp [Value.oneCell']) fun w' hI=>?_
 refine fi (by omega) ?_
 refine ba (fun hb=>by cases hb) (fun _=>?_)
 refine bb hI 1 ao rfl rfl ?_
 refine gt (css:=css) hI 0 _ bK (by omega) (by omega) rfl hcs.length hcs.one (by omega) (by omega) fun v' w' hI=>?_
 have hI:Inv w [] [bh v' ab 4 (css++[[.int .i64 t.kind,.int .i64 t.n,.string t.name,.slice a t.kids.length m]])] S2 w':=hI.pick [true,false]
 have hR3:=hR2.snoc hcs hcs.length
 refine ⟨fun b w'=>b=.bool (sgn s n' e || sgn s n' o)/\Inv w [] [bh v' ab 4 (css++[[.int .i64 t.kind,.int .i64 t.n,.string t.name,.slice a t.kids.length m]])] S2 w',?_,?_⟩
 ·refine Run.callPure dz dA hI (dd s n' e S2) fun w' hI=>?_
  cases he:sgn s n' e
  ·repeat (first|refine ad ?_|refine af (by decide) ?_|refine ac ?_|refine al ?_|refine aj ?_)
   refine Run.callPure dz dA hI (dd s n' o S2) fun w' hI=>?_
   repeat (first|refine ad ?_|refine af (by decide) ?_|refine ac ?_|refine al ?_|refine aj ?_)
   exact ⟨by simp,hI⟩
  ·repeat (first|refine ad ?_|refine af (by decide) ?_|refine ac ?_|refine al ?_|refine aj ?_)
   exact ⟨by simp,hI⟩
 intro t39 _ _ _ _ _ _ _ _ _ w'
 rintro ⟨rfl,hI⟩
 refine ba (fun hb=>?_) (fun hb=>?_)
 ·rw [Bool.or_eq_true] at hb
  rw [if_pos hb] at hT
  simp only [Option.some.injEq,Prod.mk.injEq] at hT
  obtain ⟨rfl,rfl⟩:=hT
  obtain ⟨S3,hE3,hrd,hI⟩:=Inv.lendExt (A:=[]) hI
  have hrs:=RowRd.rows (hR3.monoR fun _ _ h=>RdT.mono hE3.1 h) hrd
  exact ⟨_,[],S3,rfl,hI,(hE.trans hE2).trans hE3,rfl,_,rfl,hrs⟩
 ·have hb':¬ (sgn s n' e=true ∨ sgn s n' o=true):=fun h=>by rw [<- Bool.or_eq_true,hb] at h; cases h
  rw [if_neg hb'] at hT
  split at hT
  ·rename_i h44
   refine Run.callPure dz dA hI (dd s n' 44 S2) fun w' hI=>?_
   refine dh ?_
   rw [h44]
   refine ba (fun hb=>by cases hb) (fun _=>?_)
   have:=gU h44
   refine fj (a:=n') (b:=1) rfl rfl (by omega) ?_
   refine ⟨⟨g,n'+1,acc++[t],S2,css++[[.int .i64 t.kind,.int .i64 t.n,.string t.name,.slice a t.kids.length m]],by omega,rfl,by omega,by omega,?_,hT,hE.trans hE2,hR3,hI⟩,?_⟩
   ·rw [List.length_append]; simp only [List.length_cons,List.length_nil]; omega
   ·simp only [intOf,Int.toNat_natCast]; omega
  ·cases hT
theorem FJ {g:Nat} (hT:su g) (hR:na g) {s:Bs} {i d:Nat} {ts:List T} {n:Nat} {t:T} {e:Nat} (h1:gR g s i d 93 124 []=some (ts,n))
  (h2:(sgn s n 93=true/\t=hZ ts MN/\e=n+1) ∨ (sgn s n 93=false/\∃ u m,iE g s (n+1) d 3=some (u,m)/\sgn s m 93=true/\t=hZ ts u/\e=m+1))
  (hs:s.length<=100000) (hi:i<=s.length) (hd:d<=100) (S:aF):Tri Tryz.prog F8 [.string (st s),.int .i64 (i:Int),.int .i64 (d:Int)] [] S (K3 t e):=by
 intro w hI
 have hle:=(gH g).2.2.2 _ _ _ _ _ _ _ _ h1
 have hln:=Cx _ _ _ _ _ _ _ _ _ h1
 simp only [List.length_nil] at hln
 refine xz ?_
 unfold rM
 refine bH hI bL fun b6 w' hI=>?_
 refine Run.call0E tt rj hI (hT s i d 93 124 ts n S h1 hs hi hd) fun v I' S1 w'=>?_
 rintro ⟨rfl,u,rfl,hu⟩ hE1 hI
 have hI:Inv w [] [.blk b6 (.cells #[.int .i64 0,.int .i64 0,.string ⟨#[]⟩,.slice none 0 0] ab)] S1 w':=hI
 refine bd (v:=u) rfl ?_
 refine bd (v:=.int .i64 (n:Int)) rfl ?_
 refine fi (by omega) ?_
 refine ba (fun hb=>by cases hb) (fun _=>?_)
 refine Run.callPure dz dA hI (dd s n 93 S1) fun w' hI=>?_
 rcases h2 with ⟨h3,rfl,rfl⟩|⟨h3,x,m,h4,h5,rfl,rfl⟩
 ·rw [h3]
  refine ba (fun _=>?_) (fun hb=>by cases hb)
  refine Run.call0E dP dR hI (eC ⟨#[91,93]⟩ (by decide +kernel) (ja S1) (by simp)) fun v I' S2 w'=>?_
  rintro ⟨rfl,cs,rfl,hcs⟩ hE2 hI
  refine Run.call0E rE ta hI (pM (hu.monoT hE2.1) hcs (by omega)) fun v I' S3 w'=>?_
  rintro ⟨rfl,ds,rfl,hds⟩ hE3 hI
  refine fj (a:=n) (b:=1) rfl rfl (by omega) ?_
  obtain ⟨kv,rfl,_,_,_,a,k,rfl,_⟩:=RdT.iff.1 hds
  refine bg hI 0 rfl ao rfl rfl (by simp [Value.oneCell']) fun w' hI=>?_
  refine cG hI 0 ao rfl rfl ?_
  exact ⟨_,[],S3,rfl,hI.nil,(hE1.trans hE2).trans hE3,rfl,_,rfl,hds⟩
 ·rw [h3]
  refine ba (fun hb=>by cases hb) (fun _=>?_)
  refine fj (a:=n) (b:=1) rfl rfl (by omega) ?_
  have hle2:=(gH g).1 _ _ _ _ _ _ h4
  refine Run.call0E gk gn hI (hR s (n+1) d 3 x m S1 h4 hs (by omega) hd (by omega)) fun v I' S2 w'=>?_
  rintro ⟨rfl,cs,rfl,hcs⟩ hE2 hI
  obtain ⟨kv,rfl,_,_,_,a,k,rfl,_⟩:=RdT.iff.1 hcs
  refine bd (v:=.agg _) rfl ?_
  refine bd (v:=.int .i64 (m:Int)) rfl ?_
  refine bH hI bL fun b10 w' hI=>?_
  refine bg hI 1 rfl ao rfl rfl (by simp [Value.oneCell']) fun w' hI=>?_
  refine fi (by omega) ?_
  refine ba (fun hb=>by cases hb) (fun _=>?_)
  refine Run.callPure dz dA hI (dd s m 93 S2) fun w' hI=>?_
  refine dh ?_
  rw [h5]
  refine ba (fun hb=>by cases hb) (fun _=>?_)
  refine bb hI 1 ao rfl rfl ?_
  refine Run.call0E rE ta hI (pM (hu.monoT hE2.1) hcs (by omega)) fun v I' S3 w'=>?_
  rintro ⟨rfl,ds,rfl,hds⟩ hE3 hI
  refine fj (a:=m) (b:=1) rfl rfl (by omega) ?_
  obtain ⟨kv,rfl,_,_,_,a,k,rfl,_⟩:=RdT.iff.1 hds
  refine bg hI 0 rfl ao rfl rfl (by simp [Value.oneCell']) fun w' hI=>?_
  refine cG hI 0 ao rfl rfl ?_
  exact ⟨_,[],S3,rfl,hI.nil,(hE1.trans hE2).trans hE3,rfl,_,rfl,hds⟩
theorem CJ {n:Bs} (h:n.length<=6):(st n).size<=maxLen:=by rw [mf]; simp only [maxLen]; omega
theorem KU {f:Nat} (ihR:∀ g,g<f->na g) (ihT:∀ g,g<f->su g):CC f:=by
 intro s i d t n S h hs hi hd w hI
 cases f with
 | zero=>simp [qJ] at h
 | succ g=>
 have hR:=ihR g (by omega)
 have hT:=ihT g (by omega)
 have hle:=(gH (g+1)).2.2.1 _ _ _ _ _ h
 rw [qJ] at h
 split at h
 ·cases h
 rename_i h0
 have hd0:1<=d:=by omega
 have hlt:i<s.length:=by omega
 refine xb ?_
 unfold sr
 refine bH hI bL fun b6 w' hI=>?_
 have hI:Inv w [] [.blk b6 (.cells #[.int .i64 0,.int .i64 0,.string ⟨#[]⟩,.slice none 0 0] ab)] S w':=hI
 refine ⟨fun b w'=>b=.bool false/\Inv w [] [.blk b6 (.cells #[.int .i64 0,.int .i64 0,.string ⟨#[]⟩,.slice none 0 0] ab)] S w',?_,?_⟩
 ·refine fi (by omega) ?_
  repeat (first|refine ad ?_|refine af (by decide) ?_|refine ac ?_|refine al ?_|refine aj ?_)
  refine fP bj ?_
  refine uQ (by omega) ?_
  repeat (first|refine ad ?_|refine af (by decide) ?_|refine ac ?_|refine al ?_|refine aj ?_)
  exact ⟨rfl,hI⟩
 intro t23 _ _ _ _ _ _ _ w'
 rintro ⟨rfl,hI⟩
 refine ba (fun hb=>by cases hb) (fun _=>?_)
 refine eM bj hlt ?_
 split at h
 ·rename_i h40
  rw [jC hlt,decide_eq_true_eq] at h40
  refine fW (by omega) ?_
  refine ba (fun _=>?_) (fun hb=>by cases hb)
  split at h
  ·cases h
  rename_i u m hr
  split at h
  ·rename_i h41
   simp only [Option.some.injEq,Prod.mk.injEq] at h
   obtain ⟨rfl,rfl⟩:=h
   have hle2:=(gH g).1 _ _ _ _ _ _ hr
   refine fj (a:=i) (b:=1) rfl rfl (by omega) ?_
   refine Run.call0E gk gn hI (hR s (i+1) d 3 u m S hr hs (by omega) hd (by omega)) fun v I' S2 w'=>?_
   rintro ⟨rfl,cs,rfl,hcs⟩ hE2 hI
   obtain ⟨kv,rfl,_,_,_,a,k,rfl,_⟩:=RdT.iff.1 hcs
   refine bd (v:=.agg _) rfl ?_
   refine bd (v:=.int .i64 (m:Int)) rfl ?_
   refine bH hI bL fun b8 w' hI=>?_
   refine bg hI 1 rfl ao rfl rfl (by simp [Value.oneCell']) fun w' hI=>?_
   refine fi (by omega) ?_
   refine ba (fun hb=>by cases hb) (fun _=>?_)
   refine Run.callPure dz dA hI (dd s m 41 S2) fun w' hI=>?_
   refine dh ?_
   rw [h41]
   refine ba (fun hb=>by cases hb) (fun _=>?_)
   refine bb hI 1 ao rfl rfl ?_
   refine fj (a:=m) (b:=1) rfl rfl (by omega) ?_
   refine bg hI 0 rfl ao rfl rfl (by simp [Value.oneCell']) fun w' hI=>?_
   refine cG hI 0 ao rfl rfl ?_
   exact ⟨_,[],S2,rfl,hI.nil,hE2,rfl,_,rfl,hcs⟩
  ·cases h
 rename_i h40
 rw [jC hlt,decide_eq_true_eq] at h40
 refine eY (by omega) ?_
 refine ba (fun hb=>by cases hb) (fun _=>?_)
 refine ⟨fun b w'=>b=.bool (sgn s i 91 && !sgn s (i+1) 93)/\Inv w [] [.blk b6 (.cells #[.int .i64 0,.int .i64 0,.string ⟨#[]⟩,.slice none 0 0] ab)] S w',?_,?_⟩
 ·refine eM bj hlt ?_
  by_cases h91:s[i].toNat=91
  ·refine fW (by omega) ?_
   repeat (first|refine ad ?_|refine af (by decide) ?_|refine ac ?_|refine al ?_|refine aj ?_)
   refine fj (a:=i) (b:=1) rfl rfl (by omega) ?_
   refine Run.callPure dz dA hI (dd s (i+1) 93 S) fun w' hI=>?_
   refine dh ?_
   repeat (first|refine ad ?_|refine af (by decide) ?_|refine ac ?_|refine al ?_|refine aj ?_)
   exact ⟨by rw [jC hlt,decide_eq_true h91,Bool.true_and],hI⟩
  ·refine eY (by omega) ?_
   repeat (first|refine ad ?_|refine af (by decide) ?_|refine ac ?_|refine al ?_|refine aj ?_)
   exact ⟨by rw [jC hlt,decide_eq_false h91,Bool.false_and],hI⟩
 intro t65 _ _ _ _ _ _ _ _ _ _ w'
 rintro ⟨rfl,hI⟩
 split at h
 ·rename_i h91
  rw [h91.1,h91.2]
  refine ba (fun _=>?_) (fun hb=>by cases hb)
  split at h
  ·cases h
  rename_i ts m hts
  have h2:(sgn s m 93=true/\t=hZ ts MN/\n=m+1) ∨ (sgn s m 93=false/\∃ u k,iE g s (m+1) (d - 1) 3=some (u,k)/\sgn s k 93=true/\t=hZ ts u/\n=k+1):=by
   split at h
   ·rename_i h3
    simp only [Option.some.injEq,Prod.mk.injEq] at h
    exact .inl ⟨h3,h.1.symm,h.2.symm⟩
   ·rename_i h3
    split at h
    ·cases h
    rename_i u k hr
    split at h
    ·rename_i h4
     simp only [Option.some.injEq,Prod.mk.injEq] at h
     exact .inr ⟨Bool.eq_false_iff.2 h3,u,k,hr,h4,h.1.symm,h.2.symm⟩
    ·cases h
  refine fj (a:=i) (b:=1) rfl rfl (by omega) ?_
  refine y7 (a:=d) (b:=1) rfl rfl hd0 (by omega) ?_
  refine Run.call0E Dp Dk hI (FJ hT hR hts h2 hs (by omega) (by omega) S) fun v I' S2 w'=>?_
  rintro ⟨rfl,cs,rfl,hcs⟩ hE2 hI
  obtain ⟨kv,rfl,_,_,_,a,k,rfl,_⟩:=RdT.iff.1 hcs
  refine bd (v:=.agg _) rfl ?_
  refine bd (v:=.int .i64 (n:Int)) rfl ?_
  refine bg hI 0 rfl ao rfl rfl (by simp [Value.oneCell']) fun w' hI=>?_
  refine cG hI 0 ao rfl rfl ?_
  exact ⟨_,[],S2,rfl,hI.nil,hE2,rfl,_,rfl,hcs⟩
 rename_i h91
 have e91:(sgn s i 91 && !sgn s (i+1) 93)=false:=by
  cases h5:sgn s i 91
  ·rfl
  ·cases h6:sgn s (i+1) 93
   ·exact absurd ⟨h5,h6⟩ h91
   ·rfl
 rw [e91]
 refine ba (fun hb=>by cases hb) (fun _=>?_)
 refine ⟨fun b w'=>b=.bool (upp s i)/\Inv w [] [.blk b6 (.cells #[.int .i64 0,.int .i64 0,.string ⟨#[]⟩,.slice none 0 0] ab)] S w',?_,?_⟩
 ·refine eM bj hlt ?_
  by_cases h65:65<=s[i].toNat
  ·refine l7 (by omega) ?_
   repeat (first|refine ad ?_|refine af (by decide) ?_|refine ac ?_|refine al ?_|refine aj ?_)
   refine eM bj hlt ?_
   refine fX ?_
   repeat (first|refine ad ?_|refine af (by decide) ?_|refine ac ?_|refine al ?_|refine aj ?_)
   refine ⟨?_,hI⟩
   rw [upp,mh hlt,decide_eq_true h65,Bool.true_and]
   congr 1
   rw [decide_eq_decide]
   omega
  ·refine uQ (by omega) ?_
   repeat (first|refine ad ?_|refine af (by decide) ?_|refine ac ?_|refine al ?_|refine aj ?_)
   exact ⟨by rw [upp,mh hlt,decide_eq_false h65,Bool.false_and],hI⟩
 intro t83 _ _ _ _ _ _ _ _ _ w'
 rintro ⟨rfl,hI⟩
 split at h
 ·rename_i hup
  simp only [Option.some.injEq,Prod.mk.injEq] at h
  obtain ⟨rfl,rfl⟩:=h
  rw [hup]
  rw [upp,mh hlt,Bool.and_eq_true,decide_eq_true_eq,decide_eq_true_eq] at hup
  refine ba (fun _=>?_) (fun hb=>by cases hb)
  refine eM bj hlt ?_
  refine KI (c:=(s[i].toNat:Int) - 65) (IntWalk.u8_in _ (by omega)) ?_
  refine nw gf jJ (IntWalk.i64_in _ (by omega)) ?_
  refine Run.callPure zk zI hI (pV _ S) fun w' hI=>?_
  refine fj (a:=i) (b:=1) rfl rfl (by omega) ?_
  refine bg hI 0 rfl ao rfl rfl (by simp [Value.oneCell']) fun w' hI=>?_
  refine cG hI 0 ao rfl rfl ?_
  have eg:((s.getD i 0).toNat:Int) - 65=(s[i].toNat:Int) - 65:=by rw [List.getD_eq_getElem?_getD,List.getElem?_eq_getElem hlt]; rfl
  rw [eg]
  exact ⟨_,[],S,rfl,hI.nil,Ext.refl _ _ _,rfl,_,rfl,RdT.nil (by simp [inI]) (by unfold inI; omega) (by decide +kernel) (Nat.zero_le _)⟩
 rename_i hup
 rw [Bool.eq_false_iff.2 hup]
 refine ba (fun hb=>by cases hb) (fun _=>?_)
 refine ⟨fun b w'=>b=.bool (dig s i || (sgn s i 45 && dig s (i+1)))/\Inv w [] [.blk b6 (.cells #[.int .i64 0,.int .i64 0,.string ⟨#[]⟩,.slice none 0 0] ab)] S w',?_,?_⟩
 ·refine Run.callPure iX iY hI (gG s i S) fun w' hI=>?_
  cases hdi:dig s i
  ·repeat (first|refine ad ?_|refine af (by decide) ?_|refine ac ?_|refine al ?_|refine aj ?_)
   refine eM bj hlt ?_
   by_cases h45:s[i].toNat=45
   ·refine fW (by omega) ?_
    repeat (first|refine ad ?_|refine af (by decide) ?_|refine ac ?_|refine al ?_|refine aj ?_)
    refine fj (a:=i) (b:=1) rfl rfl (by omega) ?_
    refine Run.callPure iX iY hI (gG s (i+1) S) fun w' hI=>?_
    repeat (first|refine ad ?_|refine af (by decide) ?_|refine ac ?_|refine al ?_|refine aj ?_)
    exact ⟨by rw [jC hlt,decide_eq_true h45,Bool.true_and,Bool.false_or],hI⟩
   ·refine eY (by omega) ?_
    repeat (first|refine ad ?_|refine af (by decide) ?_|refine ac ?_|refine al ?_|refine aj ?_)
    exact ⟨by rw [jC hlt,decide_eq_false h45,Bool.false_and,Bool.false_or],hI⟩
  ·repeat (first|refine ad ?_|refine af (by decide) ?_|refine ac ?_|refine al ?_|refine aj ?_)
   exact ⟨by rw [Bool.true_or],hI⟩
 intro t106 _ _ _ _ _ _ _ _ _ _ _ _ _ _ w'
 rintro ⟨rfl,hI⟩
 split at h
 ·rename_i hdg
  have:(dig s i || (sgn s i 45 && dig s (i+1)))=true:=by rw [Bool.or_eq_true,Bool.and_eq_true]; exact hdg
  rw [this]
  refine ba (fun _=>?_) (fun hb=>by cases hb)
  obtain ⟨k,hk,rfl,_,_,hnum⟩:=zm h (by omega) S
  refine Run.callPure A5 AB hI hnum fun w' hI=>?_
  refine bd (v:=Bx 2 k) rfl ?_
  refine bd (v:=.int .i64 (n:Int)) rfl ?_
  refine bH hI bL fun b10 w' hI=>?_
  refine bg hI 1 rfl ao rfl rfl (by simp [Value.oneCell']) fun w' hI=>?_
  refine fi (by omega) ?_
  refine ba (fun hb=>by cases hb) (fun _=>?_)
  refine bb hI 1 ao rfl rfl ?_
  refine bg hI 0 rfl ao rfl rfl (by simp [Value.oneCell']) fun w' hI=>?_
  refine cG hI 0 ao rfl rfl ?_
  exact ⟨_,[],S,rfl,hI.nil,Ext.refl _ _ _,rfl,_,rfl,RdT.nil (by simp [inI]) hk (by decide +kernel) (Nat.zero_le _)⟩
 rename_i hdg
 have:(dig s i || (sgn s i 45 && dig s (i+1)))=false:=by
  rw [Bool.eq_false_iff,ne_eq,Bool.or_eq_true,Bool.and_eq_true]; exact hdg
 rw [this]
 refine ba (fun hb=>by cases hb) (fun _=>?_)
 refine Run.callPure vJ vC hI (rm hlt hs S) fun w' hI=>?_
 cases hnm:s3 s i with
 | none=>rw [hnm] at h; cases h
 | some q=>
 obtain ⟨name,m⟩:=q
 rw [hnm] at h
 simp only [] at h
 simp only [Jg]
 have hnl:=sP hlt hnm
 refine bd (v:=.string (st name)) rfl ?_
 refine bd (v:=.int .i64 (m:Int)) rfl ?_
 refine fi (by omega) ?_
 refine ba (fun hb=>by cases hb) (fun _=>?_)
 refine Run.callPure dz dA hI (dd s m 40 S) fun w' hI=>?_
 refine dh ?_
 split at h
 ·rename_i h40'
  simp only [Option.some.injEq,Prod.mk.injEq] at h
  obtain ⟨rfl,rfl⟩:=h
  rw [h40']
  refine ba (fun _=>?_) (fun hb=>by cases hb)
  refine Run.call0E dP dR hI (eC (st name) (CJ hnl.2.2.1) (ja S) (by simp)) fun v I' S2 w'=>?_
  rintro ⟨rfl,cs,rfl,hcs⟩ hE2 hI
  obtain ⟨kv,rfl,_,_,_,a,k,rfl,_⟩:=RdT.iff.1 hcs
  refine bg hI 0 rfl ao rfl rfl (by simp [Value.oneCell']) fun w' hI=>?_
  refine cG hI 0 ao rfl rfl ?_
  exact ⟨_,[],S2,rfl,hI.nil,hE2,rfl,_,rfl,hcs⟩
 ·rename_i h40'
  rw [Bool.not_eq_false] at h40'
  rw [h40']
  refine ba (fun hb=>by cases hb) (fun _=>?_)
  split at h
  ·cases h
  rename_i ts k hts
  simp only [Option.some.injEq,Prod.mk.injEq] at h
  obtain ⟨rfl,rfl⟩:=h
  have hm:=gU h40'
  have hle2:=(gH g).2.2.2 _ _ _ _ _ _ _ _ hts
  refine fj (a:=m) (b:=1) rfl rfl (by omega) ?_
  refine y7 (a:=d) (b:=1) rfl rfl hd0 (by omega) ?_
  refine Run.call0E tt rj hI (hT s (m+1) (d - 1) 41 41 ts k S hts hs (by omega) (by omega)) fun v I' S2 w'=>?_
  rintro ⟨rfl,u,rfl,hu⟩ hE2 hI
  refine bd (v:=u) rfl ?_
  refine bd (v:=.int .i64 (k:Int)) rfl ?_
  refine fi (by omega) ?_
  refine ba (fun hb=>by cases hb) (fun _=>?_)
  obtain ⟨a,c,rfl,_⟩:=id hu
  refine pZ ⟨_,_,_,rfl⟩ ?_
  refine fj (a:=k) (b:=1) rfl rfl (by omega) ?_
  refine bg hI 0 rfl ao rfl rfl (by simp [Value.oneCell']) fun w' hI=>?_
  refine cG hI 0 ao rfl rfl ?_
  exact ⟨_,[],S2,rfl,hI.nil,hE2,rfl,_,rfl,RdT.iff.2 ⟨_,rfl,by simp [inI,T.kind,Gg],by simp [inI,T.n,Gg],CJ hnl.2.2.1,hu⟩⟩
theorem Lz {f:Nat} (ihR:∀ g,g<f->na g) (ihP:∀ g,g<f->CC g):na f:=by
 intro s i d l t n S h hs hi hd hl w hI
 cases f with
 | zero=>simp [iE] at h
 | succ f=>
 refine zT ?_
 unfold vE
 refine bH hI bL fun b8 w' hI=>?_
 have hI:Inv w [] [.blk b8 (.cells #[.int .i64 0,.int .i64 0,.string ⟨#[]⟩,.slice none 0 0] ab)] S w':=hI
 cases l with
 | zero=>
  rw [iE] at h
  refine fW rfl ?_
  refine ba (fun _=>?_) (fun hb=>by cases hb)
  refine Run.call0E DQ CI hI (ihP f (by omega) s i d t n S h hs hi hd) fun v I' S2 w'=>?_
  rintro ⟨rfl,cs,rfl,hcs⟩ hE2 hI
  obtain ⟨kv,rfl,_,_,_,a,k,rfl,_⟩:=RdT.iff.1 hcs
  refine bd (v:=.agg _) rfl ?_
  refine bd (v:=.int .i64 (n:Int)) rfl ?_
  refine bg hI 0 rfl ao rfl rfl (by simp [Value.oneCell']) fun w' hI=>?_
  refine cG hI 0 ao rfl rfl ?_
  exact ⟨_,[],S2,rfl,hI.nil,hE2,rfl,_,rfl,hcs⟩
 | succ l=>
  rw [iE] at h
  split at h
  ·cases h
  rename_i t0 n0 hr
  have hle:=(gH f).1 _ _ _ _ _ _ hr
  refine eY (by omega) ?_
  refine ba (fun hb=>by cases hb) (fun _=>?_)
  refine y7 (a:=l+1) (b:=1) rfl rfl (by omega) (by omega) ?_
  rw [Nat.add_sub_cancel]
  refine Run.call0E gk gn hI (ihR f (by omega) s i d l t0 n0 S hr hs hi hd (by omega)) fun v I' S1 w'=>?_
  rintro ⟨rfl,cs,rfl,hcs⟩ hE1 hI
  obtain ⟨kv,rfl,_,_,_,a,k,rfl,_⟩:=RdT.iff.1 hcs
  refine bd (v:=.agg _) rfl ?_
  refine bd (v:=.int .i64 (n0:Int)) rfl ?_
  refine bH hI bL fun b10 w' hI=>?_
  refine bg hI 1 rfl ao rfl rfl (by simp [Value.oneCell']) fun w' hI=>?_
  refine ⟨fun a w'=>∃ (f' n':Nat) (t':T) (ds:List Value) (S1:aF),f'<=f/\a=.int .i64 (n':Int)/\n'<=s.length/\FI f' s n' d l t'=some (t,n)/\Ext w.heap.size [] S S1/\RdT S1 ds t'/\Inv w [] [.blk b8 (.cells #[.int .i64 0,.int .i64 0,.string ⟨#[]⟩,.slice none 0 0] ab),.blk b10 (.cells ds.toArray ab)] S1 w',
   fun a _=>s.length+1 - (intOf a).toNat,⟨f,n0,t0,_,S1,Nat.le_refl _,rfl,hle.2,h,hE1,hcs,hI⟩,?_⟩
  clear h hE1 hcs hI hr hle
  intro _ _ _ _ t11 _ _ _ _ _ _ _ _ _ _ _ _ _ _ _ _ _ _ _ _ _ _ _ _ _ _ _ _ _ _ _ _ _ _ _ _ _ _ _ _ _ _ w'
  rintro ⟨f',n',t',ds,S1,hf',rfl,hn',ho,hE,hds,hI⟩
  obtain ⟨kd,rfl,_,_,hts',da,dm,rfl,_⟩:=RdT.iff.1 hds
  cases f' with
  | zero=>simp [FI] at ho
  | succ g=>
  rw [FI] at ho
  refine l7 (by omega) ?_
  refine ba (fun _=>?_) (fun hb=>by cases hb)
  refine Run.callPure Jn JX hI (HE hs hn' S1) fun w' hI=>?_
  cases hop:opF s n' with
  | none=>
   rw [hop] at ho
   simp only [Option.some.injEq,Prod.mk.injEq] at ho
   obtain ⟨rfl,rfl⟩:=ho
   simp only [opV]
   refine bd (v:=.string ⟨#[]⟩) rfl ?_
   refine bd (v:=.int .i64 (n':Int)) rfl ?_
   refine ⟨fun b w'=>b=.bool true/\Inv w [] [.blk b8 (.cells #[.int .i64 0,.int .i64 0,.string ⟨#[]⟩,.slice none 0 0] ab),.blk b10 (.cells #[.int .i64 t'.kind,.int .i64 t'.n,.string t'.name,.slice da t'.kids.length dm] ab)] S1 w',?_,?_⟩
   ·refine cN ?_
    rw [decide_eq_true rfl]
    repeat (first|refine ad ?_|refine af (by decide) ?_|refine ac ?_|refine al ?_|refine aj ?_)
    exact ⟨rfl,hI⟩
   intro t48 _ _ _ _ _ _ _ w'
   rintro ⟨rfl,hI⟩
   refine ba (fun _=>?_) (fun hb=>by cases hb)
   refine bb hI 1 ao rfl rfl ?_
   refine bg hI 0 rfl ao rfl rfl (by simp [Value.oneCell']) fun w' hI=>?_
   refine cG hI 0 ao rfl rfl ?_
   exact ⟨_,[],S1,rfl,hI.nil,hE,rfl,_,rfl,hds⟩
  | some q=>
   obtain ⟨name,after⟩:=q
   rw [hop] at ho
   simp only [] at ho
   simp only [opV]
   have hol:=Kt hop
   refine bd (v:=.string (st name)) rfl ?_
   refine bd (v:=.int .i64 (after:Int)) rfl ?_
   refine ⟨fun b w'=>b=.bool (!decide (dg (st name)=((l+1:Nat):Int)))/\Inv w [] [.blk b8 (.cells #[.int .i64 0,.int .i64 0,.string ⟨#[]⟩,.slice none 0 0] ab),.blk b10 (.cells #[.int .i64 t'.kind,.int .i64 t'.n,.string t'.name,.slice da t'.kids.length dm] ab)] S1 w',?_,?_⟩
   ·refine xS (b:=[]) ?_
    rw [decide_eq_false hol.2.2.2]
    repeat (first|refine ad ?_|refine af (by decide) ?_|refine ac ?_|refine al ?_|refine aj ?_)
    refine Run.callPure fO fI hI (ex _ S1) fun w' hI=>?_
    refine gh ?_
    repeat (first|refine ad ?_|refine af (by decide) ?_|refine ac ?_|refine al ?_|refine aj ?_)
    exact ⟨rfl,hI⟩
   intro t48 _ _ _ _ _ _ _ w'
   rintro ⟨rfl,hI⟩
   split at ho
   ·rename_i hlv
    rw [decide_eq_true hlv]
    refine ba (fun hb=>by cases hb) (fun _=>?_)
    split at ho
    ·cases ho
    rename_i r e hr
    have hle:=(gH g).1 _ _ _ _ _ _ hr
    refine y7 (a:=l+1) (b:=1) rfl rfl (by omega) (by omega) ?_
    rw [Nat.add_sub_cancel]
    refine Run.call0E gk gn hI (ihR g (by omega) s after d l r e S1 hr hs (by omega) hd (by omega)) fun v I' S2 w'=>?_
    rintro ⟨rfl,es,rfl,hes⟩ hE2 hI
    obtain ⟨ke,rfl,_,_,_,ea,em,rfl,_⟩:=RdT.iff.1 hes
    refine bd (v:=.agg _) rfl ?_
    refine bd (v:=.int .i64 (e:Int)) rfl ?_
    refine bH hI bL fun b14 w' hI=>?_
    refine bg hI 2 rfl ao rfl rfl (by simp [Value.oneCell']) fun w' hI=>?_
    refine fi (by omega) ?_
    refine ba (fun hb=>by cases hb) (fun _=>?_)
    refine bb hI 1 ao rfl rfl ?_
    refine bb hI 2 ao rfl rfl ?_
    refine qd (v:=fun b=>.slice (some ⟨b,0,none⟩) 2 2) (o:=.cells #[.int .i64 t'.kind,.int .i64 t'.n,.string t'.name,.slice da t'.kids.length dm,.int .i64 r.kind,.int .i64 r.n,.string r.name,.slice ea r.kids.length em] ab) hI (by kernel_rfl) fun b20 w' hI=>?_
    obtain ⟨S3,hI,hE3,hS3⟩:=Inv.pub1 (A:=[_,_,_]) hI
    have hks:=H9 hS3 (RdT.mono (hE2.1.trans hE3.1) hds) (RdT.mono hE3.1 hes)
    refine Run.call0E dP dR hI (eC (st name) (CJ hol.2.2.1) hks (by simp)) fun v I' S4 w'=>?_
    rintro ⟨rfl,gs,rfl,hgs⟩ hE4 hI
    obtain ⟨kg,rfl,_,_,_,ga,gm,rfl,_⟩:=RdT.iff.1 hgs
    have hE':=((hE.trans hE2).trans hE3).trans hE4
    refine bg hI 1 rfl ao rfl rfl (by simp [Value.oneCell']) fun w' hI=>?_
    split at ho
    ·rename_i hl2
     subst hl2
     simp only [Option.some.injEq,Prod.mk.injEq] at ho
     obtain ⟨rfl,rfl⟩:=ho
     refine fW rfl ?_
     refine ba (fun _=>?_) (fun hb=>by cases hb)
     refine bb hI 1 ao rfl rfl ?_
     refine bg hI 0 rfl ao rfl rfl (by simp [Value.oneCell']) fun w' hI=>?_
     refine cG hI 0 ao rfl rfl ?_
     exact ⟨_,[],S4,rfl,hI.nil,hE',rfl,_,rfl,hgs⟩
    ·refine eY (by omega) ?_
     refine ba (fun hb=>by cases hb) (fun _=>?_)
     refine ⟨⟨g,e,_,_,S4,by omega,rfl,hle.2,ho,hE',hgs,hI.pick [true,true,false]⟩,?_⟩
     simp only [intOf,Int.toNat_natCast]
     omega
   ·rename_i hlv
    rw [decide_eq_false hlv]
    simp only [Option.some.injEq,Prod.mk.injEq] at ho
    obtain ⟨rfl,rfl⟩:=ho
    refine ba (fun _=>?_) (fun hb=>by cases hb)
    refine bb hI 1 ao rfl rfl ?_
    refine bg hI 0 rfl ao rfl rfl (by simp [Value.oneCell']) fun w' hI=>?_
    refine cG hI 0 ao rfl rfl ?_
    exact ⟨_,[],S1,rfl,hI.nil,hE,rfl,_,rfl,hds⟩
theorem Lo:∀ F f,f<F->na f/\CC f/\su f
 | 0,f,h=>by omega
 | F+1,f,h=>by
  have ih:=Lo F
  have hR:na f:=Lz (fun g hg=>(ih g (by omega)).1) (fun g hg=>(ih g (by omega)).2.1)
  have hT:su f:=Kz fun g hg=>(ih g (by omega)).1
  exact ⟨hR,KU (fun g hg=>(ih g (by omega)).1) (fun g hg=>(ih g (by omega)).2.2),hT⟩
theorem Cr (f:Nat):na f:=(Lo (f+1) f (by omega)).1
end

end Go.Proofs.YtemmhhdnlbmicaaGreat

/- The source of random numbers: spec.l18Open, pick, of, num. (printed by gen_rd.py) -/
namespace Go.Proofs.YtemmhhdnlbmicaaGreat
open Go Go.RowKit

def jK (cs:List Value) (n:Nat):Prop:=cs=[.int .u8 (n:Int)]/\n<256
abbrev rdI (br:Nat) (sl:Value) (p:Nat):Item:=.blk br (.cells #[sl,.int .i64 (p:Int)] EP)
abbrev rdP (br:Nat):Value:=.pointer (some ⟨br,0,none⟩)
section
variable {P:Program} {w:World} {K:Value->World->Prop}
theorem Ib {T:TypeId} {cx cy:Bool} {x y:Int} {a b:Nat} (hx:x=a) (hy:y=b) (hb:0<b) (hk:K (.int .i64 ((a % b:Nat):Int)) w):Run P (ar .rem T cx cy (.int .i64 x) (.int .i64 y)) w K:=by
 subst hx hy
 exact CM hb hk
theorem Hz {T:TypeId} {cx cy:Bool} {x y:Int} {a b:Nat} (hx:x=a) (hy:y=b) (hb:0<b) (ha:a<=9223372036854775807) (hk:K (.int .i64 ((a / b:Nat):Int)) w):Run P (ar .quo T cx cy (.int .i64 x) (.int .i64 y)) w K:=by
 subst hx hy
 exact Mp hb ha hk
theorem MH {T:TypeId} {cx cy:Bool} {x y:Int} {a b:Nat} (hx:x=a) (hy:y=b) (ha:a<4611686018427387904) (hb:b<4611686018427387904) (hk:K (.int .i64 ((a ^^^ b:Nat):Int)) w):Run P (ar .xor T cx cy (.int .i64 x) (.int .i64 y)) w K:=by
 subst hx hy
 exact Ml ha hb hk
end
theorem RdSl.u8 {S:aF} {sl:Value} {ys:List Nat} (h:RdSl S 1 jK sl ys) (h0:0<ys.length):∃ b o cap c E fz,sl=.slice (some ⟨b,o,none⟩) ys.length cap/\S b=some (.cells c E fz)/\
  ∀ i,i<ys.length->∃ y:Nat,c[o+i * 1]?=some (.int .u8 (y:Int))/\y<256:=by
 obtain ⟨a,cap,rfl,hl,hc,h⟩:=h
 rcases h with rfl|⟨b,o,c,E,fz,rfl,hS,hR⟩
 ·simp at h0
 ·refine ⟨b,o,cap,c,E,fz,rfl,hS,fun i hi=>?_⟩
  obtain ⟨h1,h2⟩:=hR i hi
  exact ⟨ys[i],bn h1 0 _ rfl,h2⟩
section
attribute [local irreducible] Run CondV ah be
abbrev MW (S:aF) (br:Nat) (sl:Value) (p n:Nat):Value->List Item->aF->Prop:=fun v I' S'=>S'=S/\I'=[rdI br sl (p+1)]/\∃ k:Nat,k<n/\v=.int .i64 (k:Int)
theorem er {ys:List Nat} {S:aF} {sl:Value} {br p n:Nat} (h:RdSl S 1 jK sl ys) (hp:p<=1000000000000) (hn:0<n):Tri Tryz.prog zF [rdP br,.int .i64 (n:Int)] [rdI br sl p] S (MW S br sl p n):=by
 intro w hI
 refine qq ?_
 unfold mK
 obtain ⟨X,hX⟩:∃ X,X=bX [rdI br sl p]:=⟨_,rfl⟩
 rw [<- hX] at hI ⊢
 have hsl:∃ a m cap,sl=.slice a m cap/\m=ys.length:=by
  obtain ⟨a,cap,e,_⟩:=h
  exact ⟨a,_,cap,e,rfl⟩
 refine dS ?_
 refine bi oz ?_
 refine bG hI 0 bo rfl rfl ?_
 refine bN (by omega) ?_
 refine dS ?_
 refine bi oz ?_
 refine fg hI 0 (n:=1) rfl (by decide +kernel) rfl (by simp) (by simp [Value.cells,Value.oneCell']) fun w' hI=>?_
 have hI:Inv w X [rdI br sl (p+1)] S w':=hI
 have hN:∃ N:Nat,N=ys.length:=⟨_,rfl⟩
 refine ⟨fun t w'=>t=.bool (decide (ys.length=0))/\Inv w X [rdI br sl (p+1)] S w',?_,?_⟩
 ·refine fi (by omega) ?_
  refine HX (fun _=>?_) (fun hb=>by simp at hb)
  refine dS ?_
  refine bi fF ?_
  refine bG hI 0 gO rfl rfl ?_
  refine a9 h dV ?_
  refine bR ?_
  refine qL ?_
  refine ⟨?_,hI⟩
  simp
 intro t24 _ _ _ _ _ _ _ _ _ w'
 rintro ⟨rfl,hI⟩
 refine bl (fun _=>⟨_,_,_,rfl,hI,Ext.refl _ _ _,rfl,rfl,0,hn,rfl⟩) (fun h0=>?_)
 have h0:0<ys.length:=by omega
 obtain ⟨b,o,cap,c,E,fz,rfl,hS,hc⟩:=h.u8 h0
 refine dS ?_
 refine bi oz ?_
 refine bG hI 0 bo rfl rfl ?_
 refine pO (by omega) ?_
 have ep:((p+1:Nat):Int) - 1=(p:Int):=by omega
 rw [ep]
 refine dS ?_
 refine bi fF ?_
 refine bG hI 0 gO rfl rfl ?_
 refine ge dV ?_
 refine bW ?_
 refine bl (fun hlt=>?_) (fun _=>?_)
 ·have hlt':p<ys.length:=by omega
  obtain ⟨y,hy,hy2⟩:=hc p hlt'
  refine dS ?_
  refine bi fF ?_
  refine bG hI 0 gO rfl rfl ?_
  refine bk dV hlt' ?_
  refine dY yF ((hI.cellS hS).trans hy) ?_
  refine nw gf jJ (IntWalk.i64_in _ (by omega)) ?_
  refine CM hn ?_
  exact ⟨_,_,_,rfl,hI,Ext.refl _ _ _,rfl,rfl,y % n,Nat.mod_lt _ hn,rfl⟩
 ·obtain ⟨i1,hd1⟩:∃ i1,i1=p % ys.length:=⟨_,rfl⟩
  obtain ⟨i2,hd2⟩:∃ i2,i2=(p * 7+3) % ys.length:=⟨_,rfl⟩
  obtain ⟨q,hdq⟩:∃ q,q=p / ys.length:=⟨_,rfl⟩
  have hi1:i1<ys.length:=by rw [hd1]; exact Nat.mod_lt _ h0
  have hi2:i2<ys.length:=by rw [hd2]; exact Nat.mod_lt _ h0
  have hq:q<=p:=by rw [hdq]; exact Nat.div_le_self ..
  obtain ⟨y1,hv1,hy1⟩:=hc i1 hi1
  obtain ⟨y2,hv2,hy2⟩:=hc i2 hi2
  skip
  refine ⟨fun D x6 jq je jr jf js jl jn jd jh jj jo jg jm jk fV fT eU ed ew eq ev el ey eQ fG eJ cE cV cH c4 c5 c8 cY db c9 cZ dx di dj cO cL cM cK bT bU w_=>(D 0=true->bU=.pointer (some ⟨br,0,none⟩))/\(D 1=true->bT=.pointer (some ⟨br,0,none⟩))/\(D 2=true->cK=.pointer (some ⟨br,0,none⟩))/\(D 3=true->cM=.slice (some ⟨b,o,none⟩) ys.length cap)/\(D 4=true->cL=.int .i64 (p:Int))/\(D 5=true->cO=.pointer (some ⟨br,0,none⟩))/\(D 6=true->dj=.pointer (some ⟨br,0,none⟩))/\(D 7=true->di=.pointer (some ⟨br,0,none⟩))/\(D 8=true->dx=.slice (some ⟨b,o,none⟩) ys.length cap)/\(D 9=true->cZ=.int .i64 (ys.length:Int))/\(D 10=true->c9=.int .i64 (((i1:Nat):Int)))/\(D 11=true->db=.pointer (some ⟨b,o+i1 * 1,none⟩))/\(D 12=true->cY=.int .u8 ((y1:Nat):Int))/\(D 13=true->c8=.int .i64 (((y1:Nat):Int)))/\(D 14=true->c5=.int .i64 ((((y1:Nat):Int) * 131)))/\(D 15=true->c4=.pointer (some ⟨br,0,none⟩))/\(D 16=true->cH=.pointer (some ⟨br,0,none⟩))/\(D 17=true->cV=.pointer (some ⟨br,0,none⟩))/\(D 18=true->cE=.slice (some ⟨b,o,none⟩) ys.length cap)/\(D 19=true->eJ=.int .i64 (p:Int))/\(D 20=true->fG=.int .i64 (((p:Int) * 7)))/\(D 21=true->eQ=.int .i64 ((((p:Int) * 7)+3)))/\(D 22=true->ey=.pointer (some ⟨br,0,none⟩))/\(D 23=true->el=.pointer (some ⟨br,0,none⟩))/\(D 24=true->ev=.pointer (some ⟨br,0,none⟩))/\(D 25=true->eq=.slice (some ⟨b,o,none⟩) ys.length cap)/\(D 26=true->ew=.int .i64 (ys.length:Int))/\(D 27=true->ed=.int .i64 (((i2:Nat):Int)))/\(D 28=true->eU=.pointer (some ⟨b,o+i2 * 1,none⟩))/\(D 29=true->fT=.int .u8 ((y2:Nat):Int))/\(D 30=true->fV=.int .i64 (((y2:Nat):Int)))/\(D 31=true->jk=.int .i64 ((((y2:Nat):Int) * 1117)))/\(D 32=true->jm=.int .i64 (((((y1:Nat):Int) * 131)+(((y2:Nat):Int) * 1117))))/\(D 33=true->jg=.int .i64 (p:Int))/\(D 34=true->jo=.int .i64 (((p:Int) * 29)))/\(D 35=true->jj=.int .i64 ((((((y1:Nat):Int) * 131)+(((y2:Nat):Int) * 1117))+((p:Int) * 29))))/\(D 36=true->jh=.int .i64 (p:Int))/\(D 37=true->jd=.pointer (some ⟨br,0,none⟩))/\(D 38=true->jn=.pointer (some ⟨br,0,none⟩))/\(D 39=true->jl=.pointer (some ⟨br,0,none⟩))/\(D 40=true->js=.slice (some ⟨b,o,none⟩) ys.length cap)/\(D 41=true->jf=.int .i64 (ys.length:Int))/\(D 42=true->jr=.int .i64 (((q:Nat):Int)))/\(D 43=true->je=.int .i64 ((((q:Nat):Int) * 53)))/\(D 44=true->jq=.int .i64 (((((((y1:Nat):Int) * 131)+(((y2:Nat):Int) * 1117))+((p:Int) * 29))+(((q:Nat):Int) * 53))))/\(D 45=true->x6=.int .i64 (((((((y1:Nat):Int) * 131)+(((y2:Nat):Int) * 1117))+((p:Int) * 29))+(((q:Nat):Int) * 53))))/\Inv w X [rdI br (.slice (some ⟨b,o,none⟩) ys.length cap) (p+1)] S w_,⟨ae,ae,ae,ae,ae,ae,ae,ae,ae,ae,ae,ae,ae,ae,ae,ae,ae,ae,ae,ae,ae,ae,ae,ae,ae,ae,ae,ae,ae,ae,ae,ae,ae,ae,ae,ae,ae,ae,ae,ae,ae,ae,ae,ae,ae,ae,hI.draw⟩,⟨?_,?_,?_,?_,?_,?_,?_,?_,?_,?_,?_,?_,?_,?_,?_,?_,?_,?_,?_,?_,?_,?_,?_,?_,?_,?_,?_,?_,?_,?_,?_,?_,?_,?_,?_,?_,?_,?_,?_,?_,?_,?_,?_,?_,?_,?_,trivial⟩,?_⟩
  ·intro D aY  x6 jq je jr jf js jl jn jd jh jj jo jg jm jk fV fT eU ed ew eq ev el ey eQ fG eJ cE cV cH c4 c5 c8 cY db c9 cZ dx di dj cO cL cM cK bT bU w_
   rintro ⟨aA,aB,aC,az,av,aE,aD,aH,aK,aP,ag,ai,aG,aM,aO,aN,aV,aU,aW,aX,aZ,a6,a4,a5,a8,bz,bx,bA,bB,bC,cg,cA,cn,cv,cw,cu,co,ci,cj,cq,ch,cz,ct,cr,cm,cB,hI⟩
   exact ⟨fun _=>rfl,aB,aC,az,av,aE,aD,aH,aK,aP,ag,ai,aG,aM,aO,aN,aV,aU,aW,aX,aZ,a6,a4,a5,a8,bz,bx,bA,bB,bC,cg,cA,cn,cv,cw,cu,co,ci,cj,cq,ch,cz,ct,cr,cm,cB,hI⟩
  ·intro D aY b0 x6 jq je jr jf js jl jn jd jh jj jo jg jm jk fV fT eU ed ew eq ev el ey eQ fG eJ cE cV cH c4 c5 c8 cY db c9 cZ dx di dj cO cL cM cK bT bU w_
   rintro ⟨aA,aB,aC,az,av,aE,aD,aH,aK,aP,ag,ai,aG,aM,aO,aN,aV,aU,aW,aX,aZ,a6,a4,a5,a8,bz,bx,bA,bB,bC,cg,cA,cn,cv,cw,cu,co,ci,cj,cq,ch,cz,ct,cr,cm,cB,hI⟩
   obtain rfl:=aA b0
   refine dS ?_
   exact ⟨aA,fun _=>rfl,aC,az,av,aE,aD,aH,aK,aP,ag,ai,aG,aM,aO,aN,aV,aU,aW,aX,aZ,a6,a4,a5,a8,bz,bx,bA,bB,bC,cg,cA,cn,cv,cw,cu,co,ci,cj,cq,ch,cz,ct,cr,cm,cB,hI⟩
  ·intro D aY dE x6 jq je jr jf js jl jn jd jh jj jo jg jm jk fV fT eU ed ew eq ev el ey eQ fG eJ cE cV cH c4 c5 c8 cY db c9 cZ dx di dj cO cL cM cK bT bU w_
   rintro ⟨aA,aB,aC,az,av,aE,aD,aH,aK,aP,ag,ai,aG,aM,aO,aN,aV,aU,aW,aX,aZ,a6,a4,a5,a8,bz,bx,bA,bB,bC,cg,cA,cn,cv,cw,cu,co,ci,cj,cq,ch,cz,ct,cr,cm,cB,hI⟩
   obtain rfl:=aB dE
   refine bi fF ?_
   exact ⟨aA,aB,fun _=>rfl,az,av,aE,aD,aH,aK,aP,ag,ai,aG,aM,aO,aN,aV,aU,aW,aX,aZ,a6,a4,a5,a8,bz,bx,bA,bB,bC,cg,cA,cn,cv,cw,cu,co,ci,cj,cq,ch,cz,ct,cr,cm,cB,hI⟩
  ·intro D aY ec x6 jq je jr jf js jl jn jd jh jj jo jg jm jk fV fT eU ed ew eq ev el ey eQ fG eJ cE cV cH c4 c5 c8 cY db c9 cZ dx di dj cO cL cM cK bT bU w_
   rintro ⟨aA,aB,aC,az,av,aE,aD,aH,aK,aP,ag,ai,aG,aM,aO,aN,aV,aU,aW,aX,aZ,a6,a4,a5,a8,bz,bx,bA,bB,bC,cg,cA,cn,cv,cw,cu,co,ci,cj,cq,ch,cz,ct,cr,cm,cB,hI⟩
   obtain rfl:=aC ec
   refine bG hI 0 gO rfl rfl ?_
   exact ⟨aA,aB,aC,fun _=>rfl,av,aE,aD,aH,aK,aP,ag,ai,aG,aM,aO,aN,aV,aU,aW,aX,aZ,a6,a4,a5,a8,bz,bx,bA,bB,bC,cg,cA,cn,cv,cw,cu,co,ci,cj,cq,ch,cz,ct,cr,cm,cB,hI⟩
  ·intro D aY  x6 jq je jr jf js jl jn jd jh jj jo jg jm jk fV fT eU ed ew eq ev el ey eQ fG eJ cE cV cH c4 c5 c8 cY db c9 cZ dx di dj cO cL cM cK bT bU w_
   rintro ⟨aA,aB,aC,az,av,aE,aD,aH,aK,aP,ag,ai,aG,aM,aO,aN,aV,aU,aW,aX,aZ,a6,a4,a5,a8,bz,bx,bA,bB,bC,cg,cA,cn,cv,cw,cu,co,ci,cj,cq,ch,cz,ct,cr,cm,cB,hI⟩
   exact ⟨aA,aB,aC,az,fun _=>rfl,aE,aD,aH,aK,aP,ag,ai,aG,aM,aO,aN,aV,aU,aW,aX,aZ,a6,a4,a5,a8,bz,bx,bA,bB,bC,cg,cA,cn,cv,cw,cu,co,ci,cj,cq,ch,cz,ct,cr,cm,cB,hI⟩
  ·intro D aY  x6 jq je jr jf js jl jn jd jh jj jo jg jm jk fV fT eU ed ew eq ev el ey eQ fG eJ cE cV cH c4 c5 c8 cY db c9 cZ dx di dj cO cL cM cK bT bU w_
   rintro ⟨aA,aB,aC,az,av,aE,aD,aH,aK,aP,ag,ai,aG,aM,aO,aN,aV,aU,aW,aX,aZ,a6,a4,a5,a8,bz,bx,bA,bB,bC,cg,cA,cn,cv,cw,cu,co,ci,cj,cq,ch,cz,ct,cr,cm,cB,hI⟩
   exact ⟨aA,aB,aC,az,av,fun _=>rfl,aD,aH,aK,aP,ag,ai,aG,aM,aO,aN,aV,aU,aW,aX,aZ,a6,a4,a5,a8,bz,bx,bA,bB,bC,cg,cA,cn,cv,cw,cu,co,ci,cj,cq,ch,cz,ct,cr,cm,cB,hI⟩
  ·intro D aY dT x6 jq je jr jf js jl jn jd jh jj jo jg jm jk fV fT eU ed ew eq ev el ey eQ fG eJ cE cV cH c4 c5 c8 cY db c9 cZ dx di dj cO cL cM cK bT bU w_
   rintro ⟨aA,aB,aC,az,av,aE,aD,aH,aK,aP,ag,ai,aG,aM,aO,aN,aV,aU,aW,aX,aZ,a6,a4,a5,a8,bz,bx,bA,bB,bC,cg,cA,cn,cv,cw,cu,co,ci,cj,cq,ch,cz,ct,cr,cm,cB,hI⟩
   obtain rfl:=aE dT
   refine dS ?_
   exact ⟨aA,aB,aC,az,av,aE,fun _=>rfl,aH,aK,aP,ag,ai,aG,aM,aO,aN,aV,aU,aW,aX,aZ,a6,a4,a5,a8,bz,bx,bA,bB,bC,cg,cA,cn,cv,cw,cu,co,ci,cj,cq,ch,cz,ct,cr,cm,cB,hI⟩
  ·intro D aY cJ x6 jq je jr jf js jl jn jd jh jj jo jg jm jk fV fT eU ed ew eq ev el ey eQ fG eJ cE cV cH c4 c5 c8 cY db c9 cZ dx di dj cO cL cM cK bT bU w_
   rintro ⟨aA,aB,aC,az,av,aE,aD,aH,aK,aP,ag,ai,aG,aM,aO,aN,aV,aU,aW,aX,aZ,a6,a4,a5,a8,bz,bx,bA,bB,bC,cg,cA,cn,cv,cw,cu,co,ci,cj,cq,ch,cz,ct,cr,cm,cB,hI⟩
   obtain rfl:=aD cJ
   refine bi fF ?_
   exact ⟨aA,aB,aC,az,av,aE,aD,fun _=>rfl,aK,aP,ag,ai,aG,aM,aO,aN,aV,aU,aW,aX,aZ,a6,a4,a5,a8,bz,bx,bA,bB,bC,cg,cA,cn,cv,cw,cu,co,ci,cj,cq,ch,cz,ct,cr,cm,cB,hI⟩
  ·intro D aY d6 x6 jq je jr jf js jl jn jd jh jj jo jg jm jk fV fT eU ed ew eq ev el ey eQ fG eJ cE cV cH c4 c5 c8 cY db c9 cZ dx di dj cO cL cM cK bT bU w_
   rintro ⟨aA,aB,aC,az,av,aE,aD,aH,aK,aP,ag,ai,aG,aM,aO,aN,aV,aU,aW,aX,aZ,a6,a4,a5,a8,bz,bx,bA,bB,bC,cg,cA,cn,cv,cw,cu,co,ci,cj,cq,ch,cz,ct,cr,cm,cB,hI⟩
   obtain rfl:=aH d6
   refine bG hI 0 gO rfl rfl ?_
   exact ⟨aA,aB,aC,az,av,aE,aD,aH,fun _=>rfl,aP,ag,ai,aG,aM,aO,aN,aV,aU,aW,aX,aZ,a6,a4,a5,a8,bz,bx,bA,bB,bC,cg,cA,cn,cv,cw,cu,co,ci,cj,cq,ch,cz,ct,cr,cm,cB,hI⟩
  ·intro D aY hY x6 jq je jr jf js jl jn jd jh jj jo jg jm jk fV fT eU ed ew eq ev el ey eQ fG eJ cE cV cH c4 c5 c8 cY db c9 cZ dx di dj cO cL cM cK bT bU w_
   rintro ⟨aA,aB,aC,az,av,aE,aD,aH,aK,aP,ag,ai,aG,aM,aO,aN,aV,aU,aW,aX,aZ,a6,a4,a5,a8,bz,bx,bA,bB,bC,cg,cA,cn,cv,cw,cu,co,ci,cj,cq,ch,cz,ct,cr,cm,cB,hI⟩
   obtain rfl:=aK hY
   refine ge dV ?_
   exact ⟨aA,aB,aC,az,av,aE,aD,aH,aK,fun _=>rfl,ag,ai,aG,aM,aO,aN,aV,aU,aW,aX,aZ,a6,a4,a5,a8,bz,bx,bA,bB,bC,cg,cA,cn,cv,cw,cu,co,ci,cj,cq,ch,cz,ct,cr,cm,cB,hI⟩
  ·intro D aY cF fl x6 jq je jr jf js jl jn jd jh jj jo jg jm jk fV fT eU ed ew eq ev el ey eQ fG eJ cE cV cH c4 c5 c8 cY db c9 cZ dx di dj cO cL cM cK bT bU w_
   rintro ⟨aA,aB,aC,az,av,aE,aD,aH,aK,aP,ag,ai,aG,aM,aO,aN,aV,aU,aW,aX,aZ,a6,a4,a5,a8,bz,bx,bA,bB,bC,cg,cA,cn,cv,cw,cu,co,ci,cj,cq,ch,cz,ct,cr,cm,cB,hI⟩
   obtain rfl:=av cF
   obtain rfl:=aP fl
   refine Ib (a:=p) (b:=ys.length) (by omega) rfl h0 ?_; rw [<- hd1]
   exact ⟨aA,aB,aC,az,av,aE,aD,aH,aK,aP,fun _=>rfl,ai,aG,aM,aO,aN,aV,aU,aW,aX,aZ,a6,a4,a5,a8,bz,bx,bA,bB,bC,cg,cA,cn,cv,cw,cu,co,ci,cj,cq,ch,cz,ct,cr,cm,cB,hI⟩
  ·intro D aY dB lz x6 jq je jr jf js jl jn jd jh jj jo jg jm jk fV fT eU ed ew eq ev el ey eQ fG eJ cE cV cH c4 c5 c8 cY db c9 cZ dx di dj cO cL cM cK bT bU w_
   rintro ⟨aA,aB,aC,az,av,aE,aD,aH,aK,aP,ag,ai,aG,aM,aO,aN,aV,aU,aW,aX,aZ,a6,a4,a5,a8,bz,bx,bA,bB,bC,cg,cA,cn,cv,cw,cu,co,ci,cj,cq,ch,cz,ct,cr,cm,cB,hI⟩
   obtain rfl:=az dB
   obtain rfl:=ag lz
   refine bk dV hi1 ?_
   exact ⟨aA,aB,aC,az,av,aE,aD,aH,aK,aP,ag,fun _=>rfl,aG,aM,aO,aN,aV,aU,aW,aX,aZ,a6,a4,a5,a8,bz,bx,bA,bB,bC,cg,cA,cn,cv,cw,cu,co,ci,cj,cq,ch,cz,ct,cr,cm,cB,hI⟩
  ·intro D aY gZ x6 jq je jr jf js jl jn jd jh jj jo jg jm jk fV fT eU ed ew eq ev el ey eQ fG eJ cE cV cH c4 c5 c8 cY db c9 cZ dx di dj cO cL cM cK bT bU w_
   rintro ⟨aA,aB,aC,az,av,aE,aD,aH,aK,aP,ag,ai,aG,aM,aO,aN,aV,aU,aW,aX,aZ,a6,a4,a5,a8,bz,bx,bA,bB,bC,cg,cA,cn,cv,cw,cu,co,ci,cj,cq,ch,cz,ct,cr,cm,cB,hI⟩
   obtain rfl:=ai gZ
   refine dY yF ((hI.cellS hS).trans hv1) ?_
   exact ⟨aA,aB,aC,az,av,aE,aD,aH,aK,aP,ag,ai,fun _=>rfl,aM,aO,aN,aV,aU,aW,aX,aZ,a6,a4,a5,a8,bz,bx,bA,bB,bC,cg,cA,cn,cv,cw,cu,co,ci,cj,cq,ch,cz,ct,cr,cm,cB,hI⟩
  ·intro D aY ku x6 jq je jr jf js jl jn jd jh jj jo jg jm jk fV fT eU ed ew eq ev el ey eQ fG eJ cE cV cH c4 c5 c8 cY db c9 cZ dx di dj cO cL cM cK bT bU w_
   rintro ⟨aA,aB,aC,az,av,aE,aD,aH,aK,aP,ag,ai,aG,aM,aO,aN,aV,aU,aW,aX,aZ,a6,a4,a5,a8,bz,bx,bA,bB,bC,cg,cA,cn,cv,cw,cu,co,ci,cj,cq,ch,cz,ct,cr,cm,cB,hI⟩
   obtain rfl:=aG ku
   refine nw gf jJ (IntWalk.i64_in _ (by omega)) ?_
   exact ⟨aA,aB,aC,az,av,aE,aD,aH,aK,aP,ag,ai,aG,fun _=>rfl,aO,aN,aV,aU,aW,aX,aZ,a6,a4,a5,a8,bz,bx,bA,bB,bC,cg,cA,cn,cv,cw,cu,co,ci,cj,cq,ch,cz,ct,cr,cm,cB,hI⟩
  ·intro D aY g9 x6 jq je jr jf js jl jn jd jh jj jo jg jm jk fV fT eU ed ew eq ev el ey eQ fG eJ cE cV cH c4 c5 c8 cY db c9 cZ dx di dj cO cL cM cK bT bU w_
   rintro ⟨aA,aB,aC,az,av,aE,aD,aH,aK,aP,ag,ai,aG,aM,aO,aN,aV,aU,aW,aX,aZ,a6,a4,a5,a8,bz,bx,bA,bB,bC,cg,cA,cn,cv,cw,cu,co,ci,cj,cq,ch,cz,ct,cr,cm,cB,hI⟩
   obtain rfl:=aM g9
   refine BF (by omega) ?_
   exact ⟨aA,aB,aC,az,av,aE,aD,aH,aK,aP,ag,ai,aG,aM,fun _=>rfl,aN,aV,aU,aW,aX,aZ,a6,a4,a5,a8,bz,bx,bA,bB,bC,cg,cA,cn,cv,cw,cu,co,ci,cj,cq,ch,cz,ct,cr,cm,cB,hI⟩
  ·intro D aY  x6 jq je jr jf js jl jn jd jh jj jo jg jm jk fV fT eU ed ew eq ev el ey eQ fG eJ cE cV cH c4 c5 c8 cY db c9 cZ dx di dj cO cL cM cK bT bU w_
   rintro ⟨aA,aB,aC,az,av,aE,aD,aH,aK,aP,ag,ai,aG,aM,aO,aN,aV,aU,aW,aX,aZ,a6,a4,a5,a8,bz,bx,bA,bB,bC,cg,cA,cn,cv,cw,cu,co,ci,cj,cq,ch,cz,ct,cr,cm,cB,hI⟩
   exact ⟨aA,aB,aC,az,av,aE,aD,aH,aK,aP,ag,ai,aG,aM,aO,fun _=>rfl,aV,aU,aW,aX,aZ,a6,a4,a5,a8,bz,bx,bA,bB,bC,cg,cA,cn,cv,cw,cu,co,ci,cj,cq,ch,cz,ct,cr,cm,cB,hI⟩
  ·intro D aY zq x6 jq je jr jf js jl jn jd jh jj jo jg jm jk fV fT eU ed ew eq ev el ey eQ fG eJ cE cV cH c4 c5 c8 cY db c9 cZ dx di dj cO cL cM cK bT bU w_
   rintro ⟨aA,aB,aC,az,av,aE,aD,aH,aK,aP,ag,ai,aG,aM,aO,aN,aV,aU,aW,aX,aZ,a6,a4,a5,a8,bz,bx,bA,bB,bC,cg,cA,cn,cv,cw,cu,co,ci,cj,cq,ch,cz,ct,cr,cm,cB,hI⟩
   obtain rfl:=aN zq
   refine dS ?_
   exact ⟨aA,aB,aC,az,av,aE,aD,aH,aK,aP,ag,ai,aG,aM,aO,aN,fun _=>rfl,aU,aW,aX,aZ,a6,a4,a5,a8,bz,bx,bA,bB,bC,cg,cA,cn,cv,cw,cu,co,ci,cj,cq,ch,cz,ct,cr,cm,cB,hI⟩
  ·intro D aY M2 x6 jq je jr jf js jl jn jd jh jj jo jg jm jk fV fT eU ed ew eq ev el ey eQ fG eJ cE cV cH c4 c5 c8 cY db c9 cZ dx di dj cO cL cM cK bT bU w_
   rintro ⟨aA,aB,aC,az,av,aE,aD,aH,aK,aP,ag,ai,aG,aM,aO,aN,aV,aU,aW,aX,aZ,a6,a4,a5,a8,bz,bx,bA,bB,bC,cg,cA,cn,cv,cw,cu,co,ci,cj,cq,ch,cz,ct,cr,cm,cB,hI⟩
   obtain rfl:=aV M2
   refine bi fF ?_
   exact ⟨aA,aB,aC,az,av,aE,aD,aH,aK,aP,ag,ai,aG,aM,aO,aN,aV,fun _=>rfl,aW,aX,aZ,a6,a4,a5,a8,bz,bx,bA,bB,bC,cg,cA,cn,cv,cw,cu,co,ci,cj,cq,ch,cz,ct,cr,cm,cB,hI⟩
  ·intro D aY Fu x6 jq je jr jf js jl jn jd jh jj jo jg jm jk fV fT eU ed ew eq ev el ey eQ fG eJ cE cV cH c4 c5 c8 cY db c9 cZ dx di dj cO cL cM cK bT bU w_
   rintro ⟨aA,aB,aC,az,av,aE,aD,aH,aK,aP,ag,ai,aG,aM,aO,aN,aV,aU,aW,aX,aZ,a6,a4,a5,a8,bz,bx,bA,bB,bC,cg,cA,cn,cv,cw,cu,co,ci,cj,cq,ch,cz,ct,cr,cm,cB,hI⟩
   obtain rfl:=aU Fu
   refine bG hI 0 gO rfl rfl ?_
   exact ⟨aA,aB,aC,az,av,aE,aD,aH,aK,aP,ag,ai,aG,aM,aO,aN,aV,aU,fun _=>rfl,aX,aZ,a6,a4,a5,a8,bz,bx,bA,bB,bC,cg,cA,cn,cv,cw,cu,co,ci,cj,cq,ch,cz,ct,cr,cm,cB,hI⟩
  ·intro D aY  x6 jq je jr jf js jl jn jd jh jj jo jg jm jk fV fT eU ed ew eq ev el ey eQ fG eJ cE cV cH c4 c5 c8 cY db c9 cZ dx di dj cO cL cM cK bT bU w_
   rintro ⟨aA,aB,aC,az,av,aE,aD,aH,aK,aP,ag,ai,aG,aM,aO,aN,aV,aU,aW,aX,aZ,a6,a4,a5,a8,bz,bx,bA,bB,bC,cg,cA,cn,cv,cw,cu,co,ci,cj,cq,ch,cz,ct,cr,cm,cB,hI⟩
   exact ⟨aA,aB,aC,az,av,aE,aD,aH,aK,aP,ag,ai,aG,aM,aO,aN,aV,aU,aW,fun _=>rfl,aZ,a6,a4,a5,a8,bz,bx,bA,bB,bC,cg,cA,cn,cv,cw,cu,co,ci,cj,cq,ch,cz,ct,cr,cm,cB,hI⟩
  ·intro D aY gD x6 jq je jr jf js jl jn jd jh jj jo jg jm jk fV fT eU ed ew eq ev el ey eQ fG eJ cE cV cH c4 c5 c8 cY db c9 cZ dx di dj cO cL cM cK bT bU w_
   rintro ⟨aA,aB,aC,az,av,aE,aD,aH,aK,aP,ag,ai,aG,aM,aO,aN,aV,aU,aW,aX,aZ,a6,a4,a5,a8,bz,bx,bA,bB,bC,cg,cA,cn,cv,cw,cu,co,ci,cj,cq,ch,cz,ct,cr,cm,cB,hI⟩
   obtain rfl:=aX gD
   refine BF (by omega) ?_
   exact ⟨aA,aB,aC,az,av,aE,aD,aH,aK,aP,ag,ai,aG,aM,aO,aN,aV,aU,aW,aX,fun _=>rfl,a6,a4,a5,a8,bz,bx,bA,bB,bC,cg,cA,cn,cv,cw,cu,co,ci,cj,cq,ch,cz,ct,cr,cm,cB,hI⟩
  ·intro D aY zl x6 jq je jr jf js jl jn jd jh jj jo jg jm jk fV fT eU ed ew eq ev el ey eQ fG eJ cE cV cH c4 c5 c8 cY db c9 cZ dx di dj cO cL cM cK bT bU w_
   rintro ⟨aA,aB,aC,az,av,aE,aD,aH,aK,aP,ag,ai,aG,aM,aO,aN,aV,aU,aW,aX,aZ,a6,a4,a5,a8,bz,bx,bA,bB,bC,cg,cA,cn,cv,cw,cu,co,ci,cj,cq,ch,cz,ct,cr,cm,cB,hI⟩
   obtain rfl:=aZ zl
   refine bN (by omega) ?_
   exact ⟨aA,aB,aC,az,av,aE,aD,aH,aK,aP,ag,ai,aG,aM,aO,aN,aV,aU,aW,aX,aZ,fun _=>rfl,a4,a5,a8,bz,bx,bA,bB,bC,cg,cA,cn,cv,cw,cu,co,ci,cj,cq,ch,cz,ct,cr,cm,cB,hI⟩
  ·intro D aY  x6 jq je jr jf js jl jn jd jh jj jo jg jm jk fV fT eU ed ew eq ev el ey eQ fG eJ cE cV cH c4 c5 c8 cY db c9 cZ dx di dj cO cL cM cK bT bU w_
   rintro ⟨aA,aB,aC,az,av,aE,aD,aH,aK,aP,ag,ai,aG,aM,aO,aN,aV,aU,aW,aX,aZ,a6,a4,a5,a8,bz,bx,bA,bB,bC,cg,cA,cn,cv,cw,cu,co,ci,cj,cq,ch,cz,ct,cr,cm,cB,hI⟩
   exact ⟨aA,aB,aC,az,av,aE,aD,aH,aK,aP,ag,ai,aG,aM,aO,aN,aV,aU,aW,aX,aZ,a6,fun _=>rfl,a5,a8,bz,bx,bA,bB,bC,cg,cA,cn,cv,cw,cu,co,ci,cj,cq,ch,cz,ct,cr,cm,cB,hI⟩
  ·intro D aY KP x6 jq je jr jf js jl jn jd jh jj jo jg jm jk fV fT eU ed ew eq ev el ey eQ fG eJ cE cV cH c4 c5 c8 cY db c9 cZ dx di dj cO cL cM cK bT bU w_
   rintro ⟨aA,aB,aC,az,av,aE,aD,aH,aK,aP,ag,ai,aG,aM,aO,aN,aV,aU,aW,aX,aZ,a6,a4,a5,a8,bz,bx,bA,bB,bC,cg,cA,cn,cv,cw,cu,co,ci,cj,cq,ch,cz,ct,cr,cm,cB,hI⟩
   obtain rfl:=a4 KP
   refine dS ?_
   exact ⟨aA,aB,aC,az,av,aE,aD,aH,aK,aP,ag,ai,aG,aM,aO,aN,aV,aU,aW,aX,aZ,a6,a4,fun _=>rfl,a8,bz,bx,bA,bB,bC,cg,cA,cn,cv,cw,cu,co,ci,cj,cq,ch,cz,ct,cr,cm,cB,hI⟩
  ·intro D aY KN x6 jq je jr jf js jl jn jd jh jj jo jg jm jk fV fT eU ed ew eq ev el ey eQ fG eJ cE cV cH c4 c5 c8 cY db c9 cZ dx di dj cO cL cM cK bT bU w_
   rintro ⟨aA,aB,aC,az,av,aE,aD,aH,aK,aP,ag,ai,aG,aM,aO,aN,aV,aU,aW,aX,aZ,a6,a4,a5,a8,bz,bx,bA,bB,bC,cg,cA,cn,cv,cw,cu,co,ci,cj,cq,ch,cz,ct,cr,cm,cB,hI⟩
   obtain rfl:=a5 KN
   refine bi fF ?_
   exact ⟨aA,aB,aC,az,av,aE,aD,aH,aK,aP,ag,ai,aG,aM,aO,aN,aV,aU,aW,aX,aZ,a6,a4,a5,fun _=>rfl,bz,bx,bA,bB,bC,cg,cA,cn,cv,cw,cu,co,ci,cj,cq,ch,cz,ct,cr,cm,cB,hI⟩
  ·intro D aY Lq x6 jq je jr jf js jl jn jd jh jj jo jg jm jk fV fT eU ed ew eq ev el ey eQ fG eJ cE cV cH c4 c5 c8 cY db c9 cZ dx di dj cO cL cM cK bT bU w_
   rintro ⟨aA,aB,aC,az,av,aE,aD,aH,aK,aP,ag,ai,aG,aM,aO,aN,aV,aU,aW,aX,aZ,a6,a4,a5,a8,bz,bx,bA,bB,bC,cg,cA,cn,cv,cw,cu,co,ci,cj,cq,ch,cz,ct,cr,cm,cB,hI⟩
   obtain rfl:=a8 Lq
   refine bG hI 0 gO rfl rfl ?_
   exact ⟨aA,aB,aC,az,av,aE,aD,aH,aK,aP,ag,ai,aG,aM,aO,aN,aV,aU,aW,aX,aZ,a6,a4,a5,a8,fun _=>rfl,bx,bA,bB,bC,cg,cA,cn,cv,cw,cu,co,ci,cj,cq,ch,cz,ct,cr,cm,cB,hI⟩
  ·intro D aY Nw x6 jq je jr jf js jl jn jd jh jj jo jg jm jk fV fT eU ed ew eq ev el ey eQ fG eJ cE cV cH c4 c5 c8 cY db c9 cZ dx di dj cO cL cM cK bT bU w_
   rintro ⟨aA,aB,aC,az,av,aE,aD,aH,aK,aP,ag,ai,aG,aM,aO,aN,aV,aU,aW,aX,aZ,a6,a4,a5,a8,bz,bx,bA,bB,bC,cg,cA,cn,cv,cw,cu,co,ci,cj,cq,ch,cz,ct,cr,cm,cB,hI⟩
   obtain rfl:=bz Nw
   refine ge dV ?_
   exact ⟨aA,aB,aC,az,av,aE,aD,aH,aK,aP,ag,ai,aG,aM,aO,aN,aV,aU,aW,aX,aZ,a6,a4,a5,a8,bz,fun _=>rfl,bA,bB,bC,cg,cA,cn,cv,cw,cu,co,ci,cj,cq,ch,cz,ct,cr,cm,cB,hI⟩
  ·intro D aY yU Mc x6 jq je jr jf js jl jn jd jh jj jo jg jm jk fV fT eU ed ew eq ev el ey eQ fG eJ cE cV cH c4 c5 c8 cY db c9 cZ dx di dj cO cL cM cK bT bU w_
   rintro ⟨aA,aB,aC,az,av,aE,aD,aH,aK,aP,ag,ai,aG,aM,aO,aN,aV,aU,aW,aX,aZ,a6,a4,a5,a8,bz,bx,bA,bB,bC,cg,cA,cn,cv,cw,cu,co,ci,cj,cq,ch,cz,ct,cr,cm,cB,hI⟩
   obtain rfl:=a6 yU
   obtain rfl:=bx Mc
   refine Ib (a:=p * 7+3) (b:=ys.length) (by omega) rfl h0 ?_; rw [<- hd2]
   exact ⟨aA,aB,aC,az,av,aE,aD,aH,aK,aP,ag,ai,aG,aM,aO,aN,aV,aU,aW,aX,aZ,a6,a4,a5,a8,bz,bx,fun _=>rfl,bB,bC,cg,cA,cn,cv,cw,cu,co,ci,cj,cq,ch,cz,ct,cr,cm,cB,hI⟩
  ·intro D aY s4 M5 x6 jq je jr jf js jl jn jd jh jj jo jg jm jk fV fT eU ed ew eq ev el ey eQ fG eJ cE cV cH c4 c5 c8 cY db c9 cZ dx di dj cO cL cM cK bT bU w_
   rintro ⟨aA,aB,aC,az,av,aE,aD,aH,aK,aP,ag,ai,aG,aM,aO,aN,aV,aU,aW,aX,aZ,a6,a4,a5,a8,bz,bx,bA,bB,bC,cg,cA,cn,cv,cw,cu,co,ci,cj,cq,ch,cz,ct,cr,cm,cB,hI⟩
   obtain rfl:=aW s4
   obtain rfl:=bA M5
   refine bk dV hi2 ?_
   exact ⟨aA,aB,aC,az,av,aE,aD,aH,aK,aP,ag,ai,aG,aM,aO,aN,aV,aU,aW,aX,aZ,a6,a4,a5,a8,bz,bx,bA,fun _=>rfl,bC,cg,cA,cn,cv,cw,cu,co,ci,cj,cq,ch,cz,ct,cr,cm,cB,hI⟩
  ·intro D aY La x6 jq je jr jf js jl jn jd jh jj jo jg jm jk fV fT eU ed ew eq ev el ey eQ fG eJ cE cV cH c4 c5 c8 cY db c9 cZ dx di dj cO cL cM cK bT bU w_
   rintro ⟨aA,aB,aC,az,av,aE,aD,aH,aK,aP,ag,ai,aG,aM,aO,aN,aV,aU,aW,aX,aZ,a6,a4,a5,a8,bz,bx,bA,bB,bC,cg,cA,cn,cv,cw,cu,co,ci,cj,cq,ch,cz,ct,cr,cm,cB,hI⟩
   obtain rfl:=bB La
   refine dY yF ((hI.cellS hS).trans hv2) ?_
   exact ⟨aA,aB,aC,az,av,aE,aD,aH,aK,aP,ag,ai,aG,aM,aO,aN,aV,aU,aW,aX,aZ,a6,a4,a5,a8,bz,bx,bA,bB,fun _=>rfl,cg,cA,cn,cv,cw,cu,co,ci,cj,cq,ch,cz,ct,cr,cm,cB,hI⟩
  ·intro D aY Nb x6 jq je jr jf js jl jn jd jh jj jo jg jm jk fV fT eU ed ew eq ev el ey eQ fG eJ cE cV cH c4 c5 c8 cY db c9 cZ dx di dj cO cL cM cK bT bU w_
   rintro ⟨aA,aB,aC,az,av,aE,aD,aH,aK,aP,ag,ai,aG,aM,aO,aN,aV,aU,aW,aX,aZ,a6,a4,a5,a8,bz,bx,bA,bB,bC,cg,cA,cn,cv,cw,cu,co,ci,cj,cq,ch,cz,ct,cr,cm,cB,hI⟩
   obtain rfl:=bC Nb
   refine nw gf jJ (IntWalk.i64_in _ (by omega)) ?_
   exact ⟨aA,aB,aC,az,av,aE,aD,aH,aK,aP,ag,ai,aG,aM,aO,aN,aV,aU,aW,aX,aZ,a6,a4,a5,a8,bz,bx,bA,bB,bC,fun _=>rfl,cA,cn,cv,cw,cu,co,ci,cj,cq,ch,cz,ct,cr,cm,cB,hI⟩
  ·intro D aY Nf x6 jq je jr jf js jl jn jd jh jj jo jg jm jk fV fT eU ed ew eq ev el ey eQ fG eJ cE cV cH c4 c5 c8 cY db c9 cZ dx di dj cO cL cM cK bT bU w_
   rintro ⟨aA,aB,aC,az,av,aE,aD,aH,aK,aP,ag,ai,aG,aM,aO,aN,aV,aU,aW,aX,aZ,a6,a4,a5,a8,bz,bx,bA,bB,bC,cg,cA,cn,cv,cw,cu,co,ci,cj,cq,ch,cz,ct,cr,cm,cB,hI⟩
   obtain rfl:=cg Nf
   refine BF (by omega) ?_
   exact ⟨aA,aB,aC,az,av,aE,aD,aH,aK,aP,ag,ai,aG,aM,aO,aN,aV,aU,aW,aX,aZ,a6,a4,a5,a8,bz,bx,bA,bB,bC,cg,fun _=>rfl,cn,cv,cw,cu,co,ci,cj,cq,ch,cz,ct,cr,cm,cB,hI⟩
  ·intro D aY Fr Nc x6 jq je jr jf js jl jn jd jh jj jo jg jm jk fV fT eU ed ew eq ev el ey eQ fG eJ cE cV cH c4 c5 c8 cY db c9 cZ dx di dj cO cL cM cK bT bU w_
   rintro ⟨aA,aB,aC,az,av,aE,aD,aH,aK,aP,ag,ai,aG,aM,aO,aN,aV,aU,aW,aX,aZ,a6,a4,a5,a8,bz,bx,bA,bB,bC,cg,cA,cn,cv,cw,cu,co,ci,cj,cq,ch,cz,ct,cr,cm,cB,hI⟩
   obtain rfl:=aO Fr
   obtain rfl:=cA Nc
   refine bN (by omega) ?_
   exact ⟨aA,aB,aC,az,av,aE,aD,aH,aK,aP,ag,ai,aG,aM,aO,aN,aV,aU,aW,aX,aZ,a6,a4,a5,a8,bz,bx,bA,bB,bC,cg,cA,fun _=>rfl,cv,cw,cu,co,ci,cj,cq,ch,cz,ct,cr,cm,cB,hI⟩
  ·intro D aY  x6 jq je jr jf js jl jn jd jh jj jo jg jm jk fV fT eU ed ew eq ev el ey eQ fG eJ cE cV cH c4 c5 c8 cY db c9 cZ dx di dj cO cL cM cK bT bU w_
   rintro ⟨aA,aB,aC,az,av,aE,aD,aH,aK,aP,ag,ai,aG,aM,aO,aN,aV,aU,aW,aX,aZ,a6,a4,a5,a8,bz,bx,bA,bB,bC,cg,cA,cn,cv,cw,cu,co,ci,cj,cq,ch,cz,ct,cr,cm,cB,hI⟩
   exact ⟨aA,aB,aC,az,av,aE,aD,aH,aK,aP,ag,ai,aG,aM,aO,aN,aV,aU,aW,aX,aZ,a6,a4,a5,a8,bz,bx,bA,bB,bC,cg,cA,cn,fun _=>rfl,cw,cu,co,ci,cj,cq,ch,cz,ct,cr,cm,cB,hI⟩
  ·intro D aY M8 x6 jq je jr jf js jl jn jd jh jj jo jg jm jk fV fT eU ed ew eq ev el ey eQ fG eJ cE cV cH c4 c5 c8 cY db c9 cZ dx di dj cO cL cM cK bT bU w_
   rintro ⟨aA,aB,aC,az,av,aE,aD,aH,aK,aP,ag,ai,aG,aM,aO,aN,aV,aU,aW,aX,aZ,a6,a4,a5,a8,bz,bx,bA,bB,bC,cg,cA,cn,cv,cw,cu,co,ci,cj,cq,ch,cz,ct,cr,cm,cB,hI⟩
   obtain rfl:=cv M8
   refine BF (by omega) ?_
   exact ⟨aA,aB,aC,az,av,aE,aD,aH,aK,aP,ag,ai,aG,aM,aO,aN,aV,aU,aW,aX,aZ,a6,a4,a5,a8,bz,bx,bA,bB,bC,cg,cA,cn,cv,fun _=>rfl,cu,co,ci,cj,cq,ch,cz,ct,cr,cm,cB,hI⟩
  ·intro D aY Nm M0 x6 jq je jr jf js jl jn jd jh jj jo jg jm jk fV fT eU ed ew eq ev el ey eQ fG eJ cE cV cH c4 c5 c8 cY db c9 cZ dx di dj cO cL cM cK bT bU w_
   rintro ⟨aA,aB,aC,az,av,aE,aD,aH,aK,aP,ag,ai,aG,aM,aO,aN,aV,aU,aW,aX,aZ,a6,a4,a5,a8,bz,bx,bA,bB,bC,cg,cA,cn,cv,cw,cu,co,ci,cj,cq,ch,cz,ct,cr,cm,cB,hI⟩
   obtain rfl:=cn Nm
   obtain rfl:=cw M0
   refine bN (by omega) ?_
   exact ⟨aA,aB,aC,az,av,aE,aD,aH,aK,aP,ag,ai,aG,aM,aO,aN,aV,aU,aW,aX,aZ,a6,a4,a5,a8,bz,bx,bA,bB,bC,cg,cA,cn,cv,cw,fun _=>rfl,co,ci,cj,cq,ch,cz,ct,cr,cm,cB,hI⟩
  ·intro D aY  x6 jq je jr jf js jl jn jd jh jj jo jg jm jk fV fT eU ed ew eq ev el ey eQ fG eJ cE cV cH c4 c5 c8 cY db c9 cZ dx di dj cO cL cM cK bT bU w_
   rintro ⟨aA,aB,aC,az,av,aE,aD,aH,aK,aP,ag,ai,aG,aM,aO,aN,aV,aU,aW,aX,aZ,a6,a4,a5,a8,bz,bx,bA,bB,bC,cg,cA,cn,cv,cw,cu,co,ci,cj,cq,ch,cz,ct,cr,cm,cB,hI⟩
   exact ⟨aA,aB,aC,az,av,aE,aD,aH,aK,aP,ag,ai,aG,aM,aO,aN,aV,aU,aW,aX,aZ,a6,a4,a5,a8,bz,bx,bA,bB,bC,cg,cA,cn,cv,cw,cu,fun _=>rfl,ci,cj,cq,ch,cz,ct,cr,cm,cB,hI⟩
  ·intro D aY  x6 jq je jr jf js jl jn jd jh jj jo jg jm jk fV fT eU ed ew eq ev el ey eQ fG eJ cE cV cH c4 c5 c8 cY db c9 cZ dx di dj cO cL cM cK bT bU w_
   rintro ⟨aA,aB,aC,az,av,aE,aD,aH,aK,aP,ag,ai,aG,aM,aO,aN,aV,aU,aW,aX,aZ,a6,a4,a5,a8,bz,bx,bA,bB,bC,cg,cA,cn,cv,cw,cu,co,ci,cj,cq,ch,cz,ct,cr,cm,cB,hI⟩
   exact ⟨aA,aB,aC,az,av,aE,aD,aH,aK,aP,ag,ai,aG,aM,aO,aN,aV,aU,aW,aX,aZ,a6,a4,a5,a8,bz,bx,bA,bB,bC,cg,cA,cn,cv,cw,cu,co,fun _=>rfl,cj,cq,ch,cz,ct,cr,cm,cB,hI⟩
  ·intro D aY Nt x6 jq je jr jf js jl jn jd jh jj jo jg jm jk fV fT eU ed ew eq ev el ey eQ fG eJ cE cV cH c4 c5 c8 cY db c9 cZ dx di dj cO cL cM cK bT bU w_
   rintro ⟨aA,aB,aC,az,av,aE,aD,aH,aK,aP,ag,ai,aG,aM,aO,aN,aV,aU,aW,aX,aZ,a6,a4,a5,a8,bz,bx,bA,bB,bC,cg,cA,cn,cv,cw,cu,co,ci,cj,cq,ch,cz,ct,cr,cm,cB,hI⟩
   obtain rfl:=ci Nt
   refine dS ?_
   exact ⟨aA,aB,aC,az,av,aE,aD,aH,aK,aP,ag,ai,aG,aM,aO,aN,aV,aU,aW,aX,aZ,a6,a4,a5,a8,bz,bx,bA,bB,bC,cg,cA,cn,cv,cw,cu,co,ci,fun _=>rfl,cq,ch,cz,ct,cr,cm,cB,hI⟩
  ·intro D aY Nn x6 jq je jr jf js jl jn jd jh jj jo jg jm jk fV fT eU ed ew eq ev el ey eQ fG eJ cE cV cH c4 c5 c8 cY db c9 cZ dx di dj cO cL cM cK bT bU w_
   rintro ⟨aA,aB,aC,az,av,aE,aD,aH,aK,aP,ag,ai,aG,aM,aO,aN,aV,aU,aW,aX,aZ,a6,a4,a5,a8,bz,bx,bA,bB,bC,cg,cA,cn,cv,cw,cu,co,ci,cj,cq,ch,cz,ct,cr,cm,cB,hI⟩
   obtain rfl:=cj Nn
   refine bi fF ?_
   exact ⟨aA,aB,aC,az,av,aE,aD,aH,aK,aP,ag,ai,aG,aM,aO,aN,aV,aU,aW,aX,aZ,a6,a4,a5,a8,bz,bx,bA,bB,bC,cg,cA,cn,cv,cw,cu,co,ci,cj,fun _=>rfl,ch,cz,ct,cr,cm,cB,hI⟩
  ·intro D aY M6 x6 jq je jr jf js jl jn jd jh jj jo jg jm jk fV fT eU ed ew eq ev el ey eQ fG eJ cE cV cH c4 c5 c8 cY db c9 cZ dx di dj cO cL cM cK bT bU w_
   rintro ⟨aA,aB,aC,az,av,aE,aD,aH,aK,aP,ag,ai,aG,aM,aO,aN,aV,aU,aW,aX,aZ,a6,a4,a5,a8,bz,bx,bA,bB,bC,cg,cA,cn,cv,cw,cu,co,ci,cj,cq,ch,cz,ct,cr,cm,cB,hI⟩
   obtain rfl:=cq M6
   refine bG hI 0 gO rfl rfl ?_
   exact ⟨aA,aB,aC,az,av,aE,aD,aH,aK,aP,ag,ai,aG,aM,aO,aN,aV,aU,aW,aX,aZ,a6,a4,a5,a8,bz,bx,bA,bB,bC,cg,cA,cn,cv,cw,cu,co,ci,cj,cq,fun _=>rfl,cz,ct,cr,cm,cB,hI⟩
  ·intro D aY MZ x6 jq je jr jf js jl jn jd jh jj jo jg jm jk fV fT eU ed ew eq ev el ey eQ fG eJ cE cV cH c4 c5 c8 cY db c9 cZ dx di dj cO cL cM cK bT bU w_
   rintro ⟨aA,aB,aC,az,av,aE,aD,aH,aK,aP,ag,ai,aG,aM,aO,aN,aV,aU,aW,aX,aZ,a6,a4,a5,a8,bz,bx,bA,bB,bC,cg,cA,cn,cv,cw,cu,co,ci,cj,cq,ch,cz,ct,cr,cm,cB,hI⟩
   obtain rfl:=ch MZ
   refine ge dV ?_
   exact ⟨aA,aB,aC,az,av,aE,aD,aH,aK,aP,ag,ai,aG,aM,aO,aN,aV,aU,aW,aX,aZ,a6,a4,a5,a8,bz,bx,bA,bB,bC,cg,cA,cn,cv,cw,cu,co,ci,cj,cq,ch,fun _=>rfl,ct,cr,cm,cB,hI⟩
  ·intro D aY Ng Nh x6 jq je jr jf js jl jn jd jh jj jo jg jm jk fV fT eU ed ew eq ev el ey eQ fG eJ cE cV cH c4 c5 c8 cY db c9 cZ dx di dj cO cL cM cK bT bU w_
   rintro ⟨aA,aB,aC,az,av,aE,aD,aH,aK,aP,ag,ai,aG,aM,aO,aN,aV,aU,aW,aX,aZ,a6,a4,a5,a8,bz,bx,bA,bB,bC,cg,cA,cn,cv,cw,cu,co,ci,cj,cq,ch,cz,ct,cr,cm,cB,hI⟩
   obtain rfl:=co Ng
   obtain rfl:=cz Nh
   refine Hz (a:=p) (b:=ys.length) rfl rfl h0 (by omega) ?_; rw [<- hdq]
   exact ⟨aA,aB,aC,az,av,aE,aD,aH,aK,aP,ag,ai,aG,aM,aO,aN,aV,aU,aW,aX,aZ,a6,a4,a5,a8,bz,bx,bA,bB,bC,cg,cA,cn,cv,cw,cu,co,ci,cj,cq,ch,cz,fun _=>rfl,cr,cm,cB,hI⟩
  ·intro D aY Nv x6 jq je jr jf js jl jn jd jh jj jo jg jm jk fV fT eU ed ew eq ev el ey eQ fG eJ cE cV cH c4 c5 c8 cY db c9 cZ dx di dj cO cL cM cK bT bU w_
   rintro ⟨aA,aB,aC,az,av,aE,aD,aH,aK,aP,ag,ai,aG,aM,aO,aN,aV,aU,aW,aX,aZ,a6,a4,a5,a8,bz,bx,bA,bB,bC,cg,cA,cn,cv,cw,cu,co,ci,cj,cq,ch,cz,ct,cr,cm,cB,hI⟩
   obtain rfl:=ct Nv
   refine BF (by omega) ?_
   exact ⟨aA,aB,aC,az,av,aE,aD,aH,aK,aP,ag,ai,aG,aM,aO,aN,aV,aU,aW,aX,aZ,a6,a4,a5,a8,bz,bx,bA,bB,bC,cg,cA,cn,cv,cw,cu,co,ci,cj,cq,ch,cz,ct,fun _=>rfl,cm,cB,hI⟩
  ·intro D aY Np Nl x6 jq je jr jf js jl jn jd jh jj jo jg jm jk fV fT eU ed ew eq ev el ey eQ fG eJ cE cV cH c4 c5 c8 cY db c9 cZ dx di dj cO cL cM cK bT bU w_
   rintro ⟨aA,aB,aC,az,av,aE,aD,aH,aK,aP,ag,ai,aG,aM,aO,aN,aV,aU,aW,aX,aZ,a6,a4,a5,a8,bz,bx,bA,bB,bC,cg,cA,cn,cv,cw,cu,co,ci,cj,cq,ch,cz,ct,cr,cm,cB,hI⟩
   obtain rfl:=cu Np
   obtain rfl:=cr Nl
   refine bN (by omega) ?_
   exact ⟨aA,aB,aC,az,av,aE,aD,aH,aK,aP,ag,ai,aG,aM,aO,aN,aV,aU,aW,aX,aZ,a6,a4,a5,a8,bz,bx,bA,bB,bC,cg,cA,cn,cv,cw,cu,co,ci,cj,cq,ch,cz,ct,cr,fun _=>rfl,cB,hI⟩
  ·intro D aY MS NK OY OS OQ OV OU OP OR ON OM Oc NP NA N8 NN Ok N4 Oa Oo NI NY Ox Ov Oh NF Oj On NH OE OA OG Nz NT NV NM Oe Ol Ob NC NW NL Om OI N2 N5 x6 jq je jr jf js jl jn jd jh jj jo jg jm jk fV fT eU ed ew eq ev el ey eQ fG eJ cE cV cH c4 c5 c8 cY db c9 cZ dx di dj cO cL cM cK bT bU w_
   rintro ⟨aA,aB,aC,az,av,aE,aD,aH,aK,aP,ag,ai,aG,aM,aO,aN,aV,aU,aW,aX,aZ,a6,a4,a5,a8,bz,bx,bA,bB,bC,cg,cA,cn,cv,cw,cu,co,ci,cj,cq,ch,cz,ct,cr,cm,cB,hI⟩
   obtain rfl:=cm MS
   exact ⟨aA,aB,aC,az,av,aE,aD,aH,aK,aP,ag,ai,aG,aM,aO,aN,aV,aU,aW,aX,aZ,a6,a4,a5,a8,bz,bx,bA,bB,bC,cg,cA,cn,cv,cw,cu,co,ci,cj,cq,ch,cz,ct,cr,cm,fun _=>rfl,hI⟩
  intro D N1 OD OH NG OJ Oi OC NS Of Oq N6 Ow NQ NJ NO NR Mz Mr Mh MB Mv C5 Dm CB D3 Ed CU zL za zG mQ m0 nh iO fk fw iK gI fK fL fH fC fB fE fM fJ x6 jq je jr jf js jl jn jd jh jj jo jg jm jk fV fT eU ed ew eq ev el ey eQ fG eJ cE cV cH c4 c5 c8 cY db c9 cZ dx di dj cO cL cM cK bT bU w_
  rintro ⟨aA,aB,aC,az,av,aE,aD,aH,aK,aP,ag,ai,aG,aM,aO,aN,aV,aU,aW,aX,aZ,a6,a4,a5,a8,bz,bx,bA,bB,bC,cg,cA,cn,cv,cw,cu,co,ci,cj,cq,ch,cz,ct,cr,cm,cB,hI⟩
  obtain rfl:=cB N1
  obtain rfl:=cm OD
  obtain rfl:=cr OH
  obtain rfl:=ct NG
  obtain rfl:=cz OJ
  obtain rfl:=ch Oi
  obtain rfl:=cq OC
  obtain rfl:=cj NS
  obtain rfl:=ci Of
  obtain rfl:=co Oq
  obtain rfl:=cu N6
  obtain rfl:=cw Ow
  obtain rfl:=cv NQ
  obtain rfl:=cn NJ
  obtain rfl:=cA NO
  obtain rfl:=cg NR
  obtain rfl:=bC Mz
  obtain rfl:=bB Mr
  obtain rfl:=bA Mh
  obtain rfl:=bx MB
  obtain rfl:=bz Mv
  obtain rfl:=a8 C5
  obtain rfl:=a5 Dm
  obtain rfl:=a4 CB
  obtain rfl:=a6 D3
  obtain rfl:=aZ Ed
  obtain rfl:=aX CU
  obtain rfl:=aW zL
  obtain rfl:=aU za
  obtain rfl:=aV zG
  obtain rfl:=aN mQ
  obtain rfl:=aO m0
  obtain rfl:=aM nh
  obtain rfl:=aG iO
  obtain rfl:=ai fk
  obtain rfl:=ag fw
  obtain rfl:=aP iK
  obtain rfl:=aK gI
  obtain rfl:=aH fK
  obtain rfl:=aD fL
  obtain rfl:=aE fH
  obtain rfl:=av fC
  obtain rfl:=az fB
  obtain rfl:=aC fE
  obtain rfl:=aB fM
  obtain rfl:=aA fJ
  clear aA aB aC az av aE aD aH aK aP ag ai aG aM aO aN aV aU aW aX aZ a6 a4 a5 a8 bz bx bA bB bC cg cA cn cv cw cu co ci cj cq ch cz ct cr cm cB
  obtain ⟨x,hx⟩:∃ x:Nat,((((((y1:Nat):Int) * 131)+(((y2:Nat):Int) * 1117))+((p:Int) * 29))+(((q:Nat):Int) * 53))=(x:Int):=⟨(((((((y1:Nat):Int) * 131)+(((y2:Nat):Int) * 1117))+((p:Int) * 29))+(((q:Nat):Int) * 53))).toNat,by omega⟩
  have hx2:x<=10000000000000000:=by omega
  rw [hx]
  refine Hz (a:=x) (b:=64) rfl rfl (by omega) (by omega) ?_
  refine MH (a:=x) (b:=x / 64) rfl rfl (by omega) (by omega) ?_
  refine CM hn ?_
  exact ⟨_,_,_,rfl,hI,Ext.refl _ _ _,rfl,rfl,_,Nat.mod_lt _ hn,rfl⟩
theorem lw {ys:List Nat} {ns:List Int} {S:aF} {sl v:Value} {br p:Nat} (h:RdSl S 1 jK sl ys) (hv:RdSl S 1 oi v ns) (h0:0<ns.length) (hp:p<=1000000000000) :
  Tri Tryz.prog Bd [rdP br,v] [rdI br sl p] S fun r I' S'=>S'=S/\I'=[rdI br sl (p+1)]/\∃ n∈ns,r=.int .i64 n:=by
 intro w hI
 refine r2 ?_
 unfold ot
 refine a9 hv fZ ?_
 refine Run.call (A:=[]) cQ cP hI (er h hp h0) fun v' I' S' w'=>?_
 rintro ⟨rfl,rfl,k,hk,rfl⟩ _ hI
 obtain ⟨b,o,cap,c,E,fz,rfl,hS,hR⟩:=hv.at_ hk
 refine bk fZ hk ?_
 refine dY bo ((hI.cellS hS).trans (bn hR 0 _ rfl)) ?_
 exact ⟨_,_,_,rfl,hI,Ext.refl _ _ _,rfl,rfl,_,List.getElem_mem hk,rfl⟩
theorem sB {ys:List Nat} {ns:List ByteArray} {S:aF} {sl v:Value} {br p:Nat} (h:RdSl S 1 jK sl ys) (hv:RdSl S 1 sK v ns) (h0:0<ns.length) (hp:p<=1000000000000) :
  Tri Tryz.prog DG [rdP br,v] [rdI br sl p] S fun r I' S'=>S'=S/\I'=[rdI br sl (p+1)]/\∃ n∈ns,r=.string n:=by
 intro w hI
 refine uP ?_
 unfold pP
 refine a9 hv cR ?_
 refine Run.call (A:=[]) cQ cP hI (er h hp h0) fun v' I' S' w'=>?_
 rintro ⟨rfl,rfl,k,hk,rfl⟩ _ hI
 obtain ⟨b,o,cap,c,E,fz,rfl,hS,hR⟩:=hv.at_ hk
 refine bk cR hk ?_
 refine dY bm ((hI.cellS hS).trans (bn hR 0 _ rfl)) ?_
 exact ⟨_,_,_,rfl,hI,Ext.refl _ _ _,rfl,rfl,_,List.getElem_mem hk,rfl⟩
theorem Hd {ys:List Nat} {S:aF} {v:Value} (h:RdSl S 1 jK v ys) :
  Tri Tryz.prog EZ [v] [] S fun r I' S'=>S'=S/\∃ br sl ys',r=rdP br/\I'=[rdI br sl 0]/\RdSl S 1 jK sl ys':=by
 intro w hI
 refine wo ?_
 unfold sE
 refine ⟨fun t w'=>(∃ ys',RdSl S 1 jK t ys')/\Inv w [] [] S w',?_,?_⟩
 ·refine a9 h dV ?_
  refine eh ?_
  refine bl (fun hgt=>?_) (fun _=>⟨⟨_,h⟩,hI⟩)
  obtain ⟨a,cap,rfl,hl,hc,hh⟩:=id h
  refine Id (h:=2000) dV (by omega) ?_
  exact ⟨⟨_,RdSl.to h (by omega)⟩,hI⟩
 intro t0 _ _ _ _ _ w'
 rintro ⟨⟨ys',hr⟩,hI⟩
 obtain ⟨a,cap,rfl,_⟩:=id hr
 refine Run.of (v:=.agg #[.slice a ys'.length cap,.int .i64 0]) (w':=w') ?_ ?_
 ·unfold dD
  rw [Sem.run_bind,run_build w' EP _ #[.slice a ys'.length cap,.int .i64 0] (by kernel_rfl),Result.andThen_ok]
  rfl
 refine bQ hI fun br w' hI=>?_
 exact ⟨_,_,_,rfl,hI,Ext.refl _ _ _,rfl,br,_,ys',rfl,rfl,hr⟩
end
end Go.Proofs.YtemmhhdnlbmicaaGreat
