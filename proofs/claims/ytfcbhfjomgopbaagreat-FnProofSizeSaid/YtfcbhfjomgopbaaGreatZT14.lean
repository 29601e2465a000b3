/- Texts read: spec.l1Struct, l1Chain, l2Read, l2Prime, l2Terms, l2Items. (printed by gen_read.py) -/
import Derived.Test.YtfcbhfjomgopbaaGreatZT13
import Derived.Test.YtfcbhfjomgopbaaGreatZT12
namespace Go.Proofs.YtfcbhfjomgopbaaGreat
open Go Go.RowKit
theorem LD {s:Bs} {i e:Nat} {t:T} (hn:Ku s i=some (t,e)):i<e/\e<=s.length:=by
 unfold Ku at hn
 obtain ⟨fr,hfr⟩:∃ fr,fr=if sgn s i 45=true then i+1 else i:=⟨_,rfl⟩
 simp only [<- hfr] at hn
 have hle:=CI s 4 fr
 have hfi:i<=fr/\fr<=i+1:=by rw [hfr]; split <;> omega
 split at hn
 ·cases hn
 rename_i hc
 simp only [not_or] at hc
 simp only [Option.some.injEq,Prod.mk.injEq] at hn
 obtain ⟨_,rfl⟩:=hn
 have h2:fr<nS s 4 fr:=by
  rcases Nat.lt_or_ge fr (nS s 4 fr) with h|h
  ·exact h
  ·refine absurd ?_ hc.1
   rw [cut,List.drop_eq_nil_of_le]
   rw [List.length_take]
   omega
 have:=xN (rt s 4 fr (nS s 4 fr - 1) (by omega) (by omega))
 omega
theorem fS:∀ f:Nat,(∀ s i d l t n,gw f s i d l=some (t,n)->i<n/\n<=s.length)/\(∀ s i d l t0 t n,Fj f s i d l t0=some (t,n)->i<=s.length->i<=n/\n<=s.length)/\
  (∀ s i d t n,pC f s i d=some (t,n)->i<n/\n<=s.length)/\(∀ s i d e o acc ts n,gy f s i d e o acc=some (ts,n)->i<n/\n<s.length)
 | 0=>⟨fun s i d l t n h=>by simp [gw] at h,fun s i d l t0 t n h=>by simp [Fj] at h,fun s i d t n h=>by simp [pC] at h,fun s i d e o acc ts n h=>by simp [gy] at h⟩
 | f+1=>by
  obtain ⟨h1,h2,h3,h4⟩:=fS f
  refine ⟨fun s i d l t n h=>?_,fun s i d l t0 t n h hi=>?_,fun s i d t n h=>?_,fun s i d e o acc ts n h=>?_⟩
  ·cases l with
   | zero=>rw [gw] at h; exact h3 _ _ _ _ _ h
   | succ l=>
    rw [gw] at h
    split at h
    ·cases h
    ·rename_i t' n' hr
     have a:=h1 _ _ _ _ _ _ hr
     have b:=h2 _ _ _ _ _ _ _ h a.2
     omega
  ·rw [Fj] at h
   split at h
   ·simp only [Option.some.injEq,Prod.mk.injEq] at h
    omega
   ·rename_i name after ho
    have a:=Lb ho
    split at h
    ·split at h
     ·cases h
     ·rename_i r e hr
      have b:=h1 _ _ _ _ _ _ hr
      split at h
      ·simp only [Option.some.injEq,Prod.mk.injEq] at h
       omega
      ·have c:=h2 _ _ _ _ _ _ _ h b.2
       omega
    ·simp only [Option.some.injEq,Prod.mk.injEq] at h
     omega
  ·rw [pC] at h
   split at h
   ·cases h
   rename_i h0
   have h0:i<s.length:=by omega
   split at h
   ·split at h
    ·cases h
    ·rename_i t' n' hr
     have a:=h1 _ _ _ _ _ _ hr
     split at h
     ·rename_i hs
      have:=gz hs
      simp only [Option.some.injEq,Prod.mk.injEq] at h
      omega
     ·cases h
   ·split at h
    ·split at h
     ·cases h
     ·rename_i ts n' hr
      have a:=h4 _ _ _ _ _ _ _ _ hr
      split at h
      ·simp only [Option.some.injEq,Prod.mk.injEq] at h
       omega
      ·split at h
       ·cases h
       ·rename_i t' e hr2
        have b:=h1 _ _ _ _ _ _ hr2
        split at h
        ·rename_i hs
         have:=gz hs
         simp only [Option.some.injEq,Prod.mk.injEq] at h
         omega
        ·cases h
    ·split at h
     ·simp only [Option.some.injEq,Prod.mk.injEq] at h
      omega
     ·split at h
      ·exact LD h
      ·split at h
       ·cases h
       ·rename_i name n' hn
        have a:=sr h0 hn
        split at h
        ·simp only [Option.some.injEq,Prod.mk.injEq] at h
         omega
        ·split at h
         ·cases h
         ·rename_i ts e hr
          have b:=h4 _ _ _ _ _ _ _ _ hr
          simp only [Option.some.injEq,Prod.mk.injEq] at h
          omega
  ·rw [gy] at h
   split at h
   ·cases h
   ·rename_i t' n' hr
    have a:=h1 _ _ _ _ _ _ hr
    split at h
    ·rename_i hs
     have hlt:n'<s.length:=hs.elim gz gz
     simp only [Option.some.injEq,Prod.mk.injEq] at h
     omega
    ·split at h
     ·have b:=h4 _ _ _ _ _ _ _ _ h
      omega
     ·cases h
abbrev Od (t:T):Value->List Item->al->Prop:=fun v I' S'=>I'=[]/\∃ cs,v=.agg cs.toArray/\RdT S' cs t
abbrev Kp (t:T) (n:Nat):Value->List Item->al->Prop:=fun v I' S'=>I'=[]/\∃ cs,v=.tuple #[.agg cs.toArray,.int .i64 (n:Int)]/\RdT S' cs t
abbrev MX (ts:List T) (n:Nat):Value->List Item->al->Prop:=fun v I' S'=>I'=[]/\∃ u,v=.tuple #[u,.int .i64 (n:Int)]/\RdSl S' 4 (RdT S') u ts
theorem kF (S:al):RdSl S 4 (RdT S) (.slice none 0 0) []:=⟨none,0,rfl,Nat.le_refl _,Nat.zero_le _,.inl rfl⟩
theorem Hq {S:al} {b:Nat} {E:TypeId} {a c:T} {k1 n1 k2 n2:Int} {s1 s2:ByteArray} {v1 v2:Value} (hS:S b=some (.cells #[.int .i64 k1,.int .i64 n1,.string s1,v1,.int .i64 k2,.int .i64 n2,.string s2,v2] E))
  (h1:RdT S [.int .i64 k1,.int .i64 n1,.string s1,v1] a) (h2:RdT S [.int .i64 k2,.int .i64 n2,.string s2,v2] c):RdSl S 4 (RdT S) (.slice (some ⟨b,0,none⟩) 2 2) [a,c]:=by
 refine ⟨_,2,rfl,Nat.le_refl _,by simp [maxLen],.inr ⟨b,0,_,E,(0,0),rfl,hS,fun i hi=>?_⟩⟩
 match i,hi with
 | 0,_=>exact h1
 | 1,_=>exact h2
section
variable {w w0:World} {X:List Nat} {L:List Item} {S:al} {K:Value->World->Prop}
attribute [local irreducible] Run CondV ag aO
theorem ew {P:Program} {T:TypeId} {cx cy:Bool} {x y:Int} {a b:Nat} (hx:x=a) (hy:y=b) (hr:a+b<=1000000000000000) (hk:K (.int .i64 ((a+b:Nat):Int)) w):Run P (cS .add T cx cy (.int .i64 x) (.int .i64 y)) w K:=by
 subst hx hy
 refine bT (by omega) ?_
 rw [<- Int.natCast_add]
 exact hk
theorem yo {P:Program} {T:TypeId} {cx cy:Bool} {x y:Int} {a b:Nat} (hx:x=a) (hy:y=b) (hle:b<=a) (hr:a<=1000000000000000) (hk:K (.int .i64 ((a - b:Nat):Int)) w):Run P (cS .sub T cx cy (.int .i64 x) (.int .i64 y)) w K:=by
 subst hx hy
 refine ic (by omega) ?_
 rw [<- Int.ofNat_sub hle]
 exact hk
theorem oz {s:ByteArray} {v:Value} (hv:∃ p n m,v=.slice p n m) (hk:K (.agg #[.int .i64 3,.int .i64 0,.string s,v]) w):Run Tryz.prog (bD ab [(0,.int .i64 3),(2,.string s),(3,v)]) w K:=by
 obtain ⟨p,n,m,rfl⟩:=hv
 refine Run.of (v:=.agg #[.int .i64 3,.int .i64 0,.string s,.slice p n m]) (w':=w) ?_ hk
 unfold bD
 rw [Sem.run_bind,run_build w ab _ #[.int .i64 3,.int .i64 0,.string s,.slice p n m] (by kernel_rfl),Result.andThen_ok]
 rfl
theorem qT (s:ByteArray) {ks:List T} {u:Value} (h:RdSl S 4 (RdT S) u ks) (hk:ks.length<=1000000):Tri Tryz.prog qe [.string s,u] [] S fun v I' S'=>S'=S/\∃ kv css,v=.agg #[.int .i64 3,.int .i64 0,.string s,kv]/\I'=[bq kv ab 4 css]/\Rows 4 (RdT S) css ks:=by
 intro w hI
 refine sK ?_
 unfold oi
 refine bi hI bH fun b4 w' hI=>?_
 refine eh hI bO fun v0 w' hI=>?_
 have hI:Inv w [] [.blk b4 (.cells #[.int .i64 0,.int .i64 0,.string ⟨#[]⟩,.slice none 0 0] ab),bq v0 ab 4 []] S w':=hI
 refine ed hI 1 (css:=[]) bO (by omega) rfl h (fun _ _=>RdT.length) (fun _ _=>RdT.one) (by simp; omega) (by omega) fun v' w' css2 hR hI=>?_
 have hI:Inv w [] [.blk b4 (.cells #[.int .i64 0,.int .i64 0,.string ⟨#[]⟩,.slice none 0 0] ab),bq v' ab 4 css2] S w':=hI
 obtain ⟨a,n,c,rfl⟩:=hI.rowSlice 1 rfl
 refine oz ⟨_,_,_,rfl⟩ ?_
 refine aG hI 0 rfl ai rfl rfl (by simp [Value.oneCell']) fun w' hI=>?_
 refine bE hI 0 ai rfl rfl ?_
 exact ⟨_,_,_,rfl,hI.sub (List.sublist_cons_self _ _),Ext.refl _ _ _,rfl,_,css2,rfl,rfl,hR⟩
theorem er (s:ByteArray) (hs:s.size<=maxLen) {ks:List T} {u:Value} (h:RdSl S 4 (RdT S) u ks) (hk:ks.length<=1000000):Tri Tryz.prog qe [.string s,u] [] S (Od (.mk 3 0 s ks)):=by
 intro w hI
 refine (qT s h hk w hI).mono ?_
 rintro e w' ⟨v,I',S',rfl,hI,hE,rfl,kv,css,rfl,rfl,hR⟩
 obtain ⟨S1,hE1,hrd,hI⟩:=Inv.lendExt (A:=[]) hI
 have hrs:=RowRd.rows (hR.monoR fun _ _ h=>RdT.mono hE1.1 h) hrd
 exact ⟨_,[],S1,rfl,hI,hE.trans hE1,rfl,[.int .i64 3,.int .i64 0,.string s,kv],rfl,RdT.iff.2 ⟨kv,rfl,by simp [inI,T.kind],by simp [inI,T.n],hs,hrs⟩⟩
theorem Hh {ts:List T} {j:Nat} (h:j<ts.length) (t:T):gH (ts.drop j) t=D1 ts[j] (gH (ts.drop (j+1)) t):=by
 rw [List.drop_eq_getElem_cons h,gH]
theorem oK {ts:List T} {t:T} {u:Value} {cs:List Value} (h:RdSl S 4 (RdT S) u ts) (ht:RdT S cs t) (hl:ts.length<=1000000):Tri Tryz.prog Eo [u,.agg cs.toArray] [] S (Od (gH ts t)):=by
 intro w hI
 obtain ⟨kv,rfl,g1,g2,g3,g4⟩:=RdT.iff.1 ht
 obtain ⟨ka,kn,kc,hkv⟩:∃ a n m,kv=.slice a n m:=by
  obtain ⟨a,m,e,_⟩:=g4
  exact ⟨_,_,_,e⟩
 refine vM ?_
 unfold rP
 refine bS hI fun b3 w' hI=>?_
 refine bi hI bH fun b4 w' hI=>?_
 refine aL hI 0 ai rfl rfl ?_
 refine bi hI bH fun b5 w' hI=>?_
 refine aG hI 2 rfl ai rfl rfl (by simp [Value.oneCell',Value.cells,hkv]) fun w' hI=>?_
 refine bp h aC ?_
 refine ic (by omega) ?_
 obtain ⟨B3,hB3⟩:∃ B3,B3=Item.blk b3 (.cells #[.int .i64 t.kind,.int .i64 t.n,.string t.name,kv] ab):=⟨_,rfl⟩
 have hI:Inv w [] [B3,.blk b4 (.cells #[.int .i64 0,.int .i64 0,.string ⟨#[]⟩,.slice none 0 0] ab),.blk b5 (.cells #[.int .i64 t.kind,.int .i64 t.n,.string t.name,kv] ab)] S w':=by rw [hB3]; exact hI
 refine ⟨fun i w'=>∃ (j:Nat) (S1:al) (ds:List Value),j<=ts.length/\i=.int .i64 ((j:Int) - 1)/\Ext w.heap.size [] S S1/\RdT S1 ds (gH (ts.drop j) t)/\Inv w [] [B3,.blk b4 (.cells #[.int .i64 0,.int .i64 0,.string ⟨#[]⟩,.slice none 0 0] ab),.blk b5 (.cells ds.toArray ab)] S1 w',
  fun i _=>(intOf i+1).toNat,⟨ts.length,S,_,Nat.le_refl _,rfl,Ext.refl _ _ _,by rw [List.drop_length]; exact ht,hI⟩,?_⟩
 intro t6 _ _ t21 t20 t19 t18 t17 t16 t15 _ _ w'
 rintro ⟨j,S1,ds,hj,rfl,hE,hds,hI⟩
 by_cases hj0:j=0
 ·subst hj0
  refine tg (by omega) ?_
  refine aS (fun hb=>by cases hb) (fun _=>?_)
  obtain ⟨kv',rfl,_,_,_,a,m,rfl,_⟩:=RdT.iff.1 hds
  refine aL hI 2 ai rfl rfl ?_
  refine aG hI 1 rfl ai rfl rfl (by simp [Value.oneCell']) fun w' hI=>?_
  refine bE hI 1 ai rfl rfl ?_
  exact ⟨_,_,_,rfl,hI.nil,hE,rfl,_,rfl,hds⟩
 ·refine kU (by omega) ?_
  refine aS (fun _=>?_) (fun hb=>by cases hb)
  obtain ⟨m,rfl⟩:∃ m,j=m+1:=⟨j - 1,by omega⟩
  have hm:m<ts.length:=by omega
  have ej:((m+1:Nat):Int) - 1=(m:Int):=by omega
  rw [ej]
  obtain ⟨b,o,cap,c,E,fz,rfl,hS,hR⟩:=(h.monoT hE.1).at_ hm
  obtain ⟨ka',hca,_,_,_,aa,am,hka',_⟩:=RdT.iff.1 hR
  subst hka'
  obtain ⟨kd,rfl,_,_,_,da,dm,rfl,_⟩:=RdT.iff.1 hds
  obtain ⟨o1,ho1⟩:∃ o1,o1=gH (ts.drop (m+1)) t:=⟨_,rfl⟩
  rw [<- ho1] at hds hI
  obtain ⟨a1,ha1⟩:∃ a1,a1=ts[m]:=⟨_,rfl⟩
  rw [<- ha1] at hR hca
  skip
  refine ⟨fun D nU ku oZ xE tz BD Cx w_=>(D 0=true->Cx=.slice (some ⟨b,o,none⟩) ts.length cap)/\(D 1=true->BD=.int .i64 (m:Int))/\(D 2=true->tz=.pointer (some ⟨b,o+m * 4,none⟩))/\(D 3=true->xE=.agg #[.int .i64 a1.kind,.int .i64 a1.n,.string a1.name,.slice aa a1.kids.length am])/\(D 4=true->oZ=.agg #[.int .i64 o1.kind,.int .i64 o1.n,.string o1.name,.slice da o1.kids.length dm])/\(D 5=true->True)/\(D 6=true->True)/\(D 7=true->True)/\∃ S2 c6,Ext w.heap.size [] S1 S2/\(D 5=true->RdSl S2 4 (RdT S2) ku [a1,o1])/\(D 6=true->nU=.agg c6.toArray/\RdT S2 c6 (D1 a1 o1))/\(D 7=true->D 6=true)/\(D 6=true->D 5=true)/\(D 5=true->D 4=true)/\Inv w [] [B3,.blk b4 (.cells #[.int .i64 0,.int .i64 0,.string ⟨#[]⟩,.slice none 0 0] ab),.blk b5 (.cells (match D 7 with|true=>c6.toArray|false=>#[.int .i64 o1.kind,.int .i64 o1.n,.string o1.name,.slice da o1.kids.length dm]) ab)] S2 w_,⟨ac,ac,ac,ac,ac,ac,ac,ac,⟨S1,[],Ext.refl _ _ _,ac,ac,ac,ac,ac,hI.draw⟩⟩,⟨?_,?_,?_,?_,?_,?_,?_,?_,trivial⟩,?_⟩
  all_goals (intro D bX; intros; rename_i nU ku oZ xE tz BD Cx w_ hA_; obtain ⟨ax,ay,az,aA,aF,aH,aE,aM,⟨S2,c6,hE2,e5,e6,k7,k6,k5,hI⟩⟩:=hA_)
  ·exact ⟨fun _=>rfl,ay,az,aA,aF,aH,aE,aM,⟨S2,c6,hE2,e5,e6,k7,k6,k5,hI⟩⟩
  ·exact ⟨ax,fun _=>rfl,az,aA,aF,aH,aE,aM,⟨S2,c6,hE2,e5,e6,k7,k6,k5,hI⟩⟩
  ·obtain rfl:=ax ‹_›
   obtain rfl:=ay ‹_›
   refine be aC hm ?_
   exact ⟨ax,ay,fun _=>rfl,aA,aF,aH,aE,aM,⟨S2,c6,hE2,e5,e6,k7,k6,k5,hI⟩⟩
  ·obtain rfl:=az ‹_›
   refine cL (cs:=[.int .i64 a1.kind,.int .i64 a1.n,.string a1.name,.slice aa a1.kids.length am]) ai rfl (fun j v hj=>by rw [hI.cellS (hE2.1 _ _ hS)]; exact bh hca j v hj) ?_
   exact ⟨ax,ay,az,fun _=>rfl,aF,aH,aE,aM,⟨S2,c6,hE2,e5,e6,k7,k6,k5,hI⟩⟩
  ·have f5:D 5=false:=Bool.eq_false_iff.2 fun h=>by rw [k5 h] at bX; cases bX
   have f6:D 6=false:=Bool.eq_false_iff.2 fun h=>by rw [k6 h] at f5; cases f5
   have f7:D 7=false:=Bool.eq_false_iff.2 fun h=>by rw [k7 h] at f6; cases f6
   have hI0:=hI
   rw [f7] at hI
   refine aL hI 2 ai rfl rfl ?_
   have hI:=hI0
   have k5:=fun (_:ah D 4 5=true)=>(rfl:ah D 4 4=true)
   exact ⟨ax,ay,az,aA,fun _=>rfl,aH,aE,aM,⟨S2,c6,hE2,e5,e6,k7,k6,k5,hI⟩⟩
  ·obtain rfl:=aA ‹_›
   obtain rfl:=aF ‹_›
   have f6:D 6=false:=Bool.eq_false_iff.2 fun h=>by rw [k6 h] at bX; cases bX
   have f7:D 7=false:=Bool.eq_false_iff.2 fun h=>by rw [k7 h] at f6; cases f6
   rw [f7] at hI
   refine lW (v:=fun b=>.slice (some ⟨b,0,none⟩) 2 2) (o:=.cells #[.int .i64 a1.kind,.int .i64 a1.n,.string a1.name,.slice aa a1.kids.length am,.int .i64 o1.kind,.int .i64 o1.n,.string o1.name,.slice da o1.kids.length dm] ab) hI (by kernel_rfl) fun b20 w_ hI=>?_
   obtain ⟨S2,hI,hE3,hS3⟩:=Inv.pub1 (A:=[_,_,_]) hI
   have hE2:=hE2.trans hE3
   have hR':RdT S2 [.int .i64 a1.kind,.int .i64 a1.n,.string a1.name,.slice aa a1.kids.length am] a1:=by
    have:=RdT.mono hE2.1 hR
    rwa [hca] at this
   have e5:=fun (_:ah D 5 5=true)=>Hq hS3 hR' (RdT.mono hE2.1 hds)
   have e6:=fun (h:D 6=true)=>(absurd h (by rw [f6]; decide):nU=.agg c6.toArray/\RdT S2 c6 (D1 a1 o1))
   have k6:=fun (_:ah D 5 6=true)=>(rfl:ah D 5 5=true)
   have k5:=fun (_:ah D 5 5=true)=>‹D 4=true›
   have hI:Inv w [] [B3,.blk b4 (.cells #[.int .i64 0,.int .i64 0,.string ⟨#[]⟩,.slice none 0 0] ab),.blk b5 (.cells (match D 7 with|true=>c6.toArray|false=>#[.int .i64 o1.kind,.int .i64 o1.n,.string o1.name,.slice da o1.kids.length dm]) ab)] S2 w_:=by
    rw [f7]
    exact hI
   exact ⟨ax,ay,az,aA,aF,fun _=>by first|assumption|trivial,aE,aM,⟨S2,c6,hE2,e5,e6,k7,k6,k5,hI⟩⟩
  ·have Kz:=aH ‹_›
   have f7:D 7=false:=Bool.eq_false_iff.2 fun h=>by rw [k7 h] at bX; cases bX
   rw [f7] at hI
   refine Run.call0E dq dr hI (er ⟨#[46]⟩ (by decide +kernel) (e5 ‹D 5=true›) (by simp)) fun v' I' S2 w_=>?_
   rintro ⟨rfl,c6,rfl,hc6⟩ hE3 hI
   have hE2:=hE2.trans hE3
   have e5:=fun (h:D 5=true)=>(e5 h).monoT hE3.1
   have e6:ah D 6 6=true->Value.agg c6.toArray=Value.agg c6.toArray/\RdT S2 c6 (D1 a1 o1):=fun _=>⟨rfl,hc6⟩
   have k7:=fun (_:ah D 6 7=true)=>(rfl:ah D 6 6=true)
   have k6:=fun (_:ah D 6 6=true)=>‹D 5=true›
   have hI:Inv w [] [B3,.blk b4 (.cells #[.int .i64 0,.int .i64 0,.string ⟨#[]⟩,.slice none 0 0] ab),.blk b5 (.cells (match D 7 with|true=>c6.toArray|false=>#[.int .i64 o1.kind,.int .i64 o1.n,.string o1.name,.slice da o1.kids.length dm]) ab)] S2 w_:=by
    rw [f7]
    exact hI
   exact ⟨ax,ay,az,aA,aF,aH,fun _=>by first|assumption|trivial,aM,⟨S2,c6,hE2,e5,e6,k7,k6,k5,hI⟩⟩
  ·have JC:=aE ‹_›
   obtain ⟨q6,hc6⟩:=e6 ‹D 6=true›
   subst q6
   rw [bX] at hI
   have hone:=hc6.one
   have hlen:=hc6.length
   refine aG hI 2 rfl ai (by simpa using hlen) rfl (by simpa using hone) fun w_ hI=>?_
   have k7:=fun (_:ah D 7 7=true)=>‹D 6=true›
   exact ⟨ax,ay,az,aA,aF,aH,aE,fun _=>trivial,⟨S2,c6,hE2,e5,e6,k7,k6,k5,hI⟩⟩
  have JC:=aE ‹_›
  have Kz:=aH ‹_›
  obtain rfl:=aF ‹_›
  obtain rfl:=aA ‹_›
  obtain rfl:=az ‹_›
  obtain rfl:=ay ‹_›
  obtain rfl:=ax ‹_›
  have OH:D 6=true:=by assumption
  have Bk:D 7=true:=by assumption
  clear ax ay az aA aF aH aE aM
  rw [Bk] at hI
  obtain ⟨_,hc6⟩:=e6 OH
  refine ic (by omega) ?_
  refine ⟨⟨m,S2,c6,by omega,rfl,hE.trans hE2,?_,hI⟩,by simp [intOf]⟩
  rw [Hh hm,<- ha1,<- ho1]
  exact hc6
end
def mw (f:Nat):Prop:=∀ (s:Bs) (i d l:Nat) (t:T) (n:Nat) (S:al),gw f s i d l=some (t,n)->s.length<=100000->i<=s.length->d<=100->l<=3->
 Tri Tryz.prog G0 [.string (st s),.int .i64 (i:Int),.int .i64 (d:Int),.int .i64 (l:Int)] [] S (Kp t n)
def Dj (f:Nat):Prop:=∀ (s:Bs) (i d:Nat) (t:T) (n:Nat) (S:al),pC f s i d=some (t,n)->s.length<=100000->i<=s.length->d<=100->
 Tri Tryz.prog Fh [.string (st s),.int .i64 (i:Int),.int .i64 (d:Int)] [] S (Kp t n)
def sd (f:Nat):Prop:=∀ (s:Bs) (i d e o:Nat) (ts:List T) (n:Nat) (S:al),gy f s i d e o []=some (ts,n)->s.length<=100000->i<=s.length->d<=100->
 Tri Tryz.prog Es [.string (st s),.int .i64 (i:Int),.int .i64 (d:Int),.int .u8 (e:Int),.int .u8 (o:Int)] [] S (MX ts n)
theorem BG:∀ (f:Nat) (s:Bs) (i d e o:Nat) (acc ts:List T) (n:Nat),gy f s i d e o acc=some (ts,n)->ts.length+i<=acc.length+n
 | 0,s,i,d,e,o,acc,ts,n,h=>by simp [gy] at h
 | f+1,s,i,d,e,o,acc,ts,n,h=>by
  rw [gy] at h
  split at h
  ·cases h
  ·rename_i t' n' hr
   have a:=(fS f).1 _ _ _ _ _ _ hr
   split at h
   ·simp only [Option.some.injEq,Prod.mk.injEq] at h
    obtain ⟨rfl,rfl⟩:=h
    rw [List.length_append]
    simp only [List.length_cons,List.length_nil]
    omega
   ·split at h
    ·have b:=BG f _ _ _ _ _ _ _ _ h
     rw [List.length_append] at b
     simp only [List.length_cons,List.length_nil] at b
     omega
    ·cases h
section
attribute [local irreducible] Run CondV ag aO
theorem Ko {f:Nat} (ih:∀ g,g<f->mw g):sd f:=by
 intro s i d e o ts n S h hs hi hd w hI
 refine vK ?_
 unfold rL
 refine eh hI bO fun v0 w' hI=>?_
 refine ⟨fun a b w'=>∃ (f' i':Nat) (acc:List T) (S1:al) (css:List (List Value)),f'<=f/\a=.int .i64 (i':Int)/\i<=i'/\i'<=s.length/\acc.length+i<=i'/\gy f' s i' d e o acc=some (ts,n)/\Ext w.heap.size [] S S1/\Rows 4 (RdT S1) css acc/\Inv w [] [bq b ab 4 css] S1 w',
  fun a _ _=>s.length+1 - (intOf a).toNat,⟨f,i,[],S,[],Nat.le_refl _,rfl,Nat.le_refl _,hi,by simp,h,Ext.refl _ _ _,Rows.nil _ _,hI⟩,?_⟩
 intro t1 _ _ _ _ _ _ _ _ _ _ _ _ _ _ _ _ _ _ _ _ t12 _ _ _ _ _ _ _ _ _ _ _ _ _ _ _ _ _ _ w'
 rintro ⟨f',i',acc,S1,css,hf',rfl,hi1,hi2,hacc,hT,hE,hR,hI⟩
 have hcl:=hR.hc
 cases f' with
 | zero=>simp [gy] at hT
 | succ g=>
 rw [gy] at hT
 split at hT
 ·cases hT
 rename_i t n' hr
 have hle:=(fS g).1 _ _ _ _ _ _ hr
 refine Run.call0E eJ eM hI (ih g (by omega) s i' d 3 t n' S1 hr hs hi2 hd (by omega)) fun v I' S2 w'=>?_
 rintro ⟨rfl,cs,rfl,hcs⟩ hE2 hI
 have hR2:=hR.monoR fun _ _ h=>RdT.mono hE2.1 h
 obtain ⟨kv,rfl,_,_,_,a,m,rfl,_⟩:=RdT.iff.1 hcs
 refine aB (v:=.agg _) rfl ?_
 refine aB (v:=.int .i64 (n':Int)) rfl ?_
 refine bi hI bH fun b13 w' hI=>?_
 refine aG hI 1 rfl ai rfl rfl (by simp [Value.oneCell']) fun w' hI=>?_
 refine ey (by omega) ?_
 refine aS (fun hb=>by cases hb) (fun _=>?_)
 refine aL hI 1 ai rfl rfl ?_
 refine f0 (css:=css) hI 0 _ bO (by omega) (by omega) rfl hcs.length hcs.one (by omega) (by omega) fun v' w' hI=>?_
 have hI:Inv w [] [bq v' ab 4 (css++[[.int .i64 t.kind,.int .i64 t.n,.string t.name,.slice a t.kids.length m]])] S2 w':=hI.pick [true,false]
 have hR3:=hR2.snoc hcs hcs.length
 refine ⟨fun b w'=>b=.bool (sgn s n' e || sgn s n' o)/\Inv w [] [bq v' ab 4 (css++[[.int .i64 t.kind,.int .i64 t.n,.string t.name,.slice a t.kids.length m]])] S2 w',?_,?_⟩
 ·refine Run.callPure cF cG hI (cz s n' e S2) fun w' hI=>?_
  cases he:sgn s n' e
  ·repeat (first|refine ad ?_|refine af (by decide) ?_|refine ae ?_|refine ak ?_|refine aj ?_)
   refine Run.callPure cF cG hI (cz s n' o S2) fun w' hI=>?_
   repeat (first|refine ad ?_|refine af (by decide) ?_|refine ae ?_|refine ak ?_|refine aj ?_)
   exact ⟨by simp,hI⟩
  ·repeat (first|refine ad ?_|refine af (by decide) ?_|refine ae ?_|refine ak ?_|refine aj ?_)
   exact ⟨by simp,hI⟩
 intro t39 _ _ _ _ _ _ _ _ _ w'
 rintro ⟨rfl,hI⟩
 refine aS (fun hb=>?_) (fun hb=>?_)
 ·rw [Bool.or_eq_true] at hb
  rw [if_pos hb] at hT
  simp only [Option.some.injEq,Prod.mk.injEq] at hT
  obtain ⟨rfl,rfl⟩:=hT
  obtain ⟨S3,hE3,hrd,hI⟩:=Inv.lendExt (A:=[]) hI
  have hrs:=RowRd.rows (hR3.monoR fun _ _ h=>RdT.mono hE3.1 h) hrd
  exact ⟨_,[],S3,rfl,hI,(hE.trans hE2).trans hE3,rfl,_,rfl,hrs⟩
 ·have hb':¬ (sgn s n' e=true ∨ sgn s n' o=true):=fun h=>by rw [<- Bool.or_eq_true,hb] at h; cases h
  rw [if_neg hb'] at hT
  split at hT
  ·rename_i h44
   refine Run.callPure cF cG hI (cz s n' 44 S2) fun w' hI=>?_
   refine cK ?_
   rw [h44]
   refine aS (fun hb=>by cases hb) (fun _=>?_)
   have:=gz h44
   refine ew (a:=n') (b:=1) rfl rfl (by omega) ?_
   refine ⟨⟨g,n'+1,acc++[t],S2,css++[[.int .i64 t.kind,.int .i64 t.n,.string t.name,.slice a t.kids.length m]],by omega,rfl,by omega,by omega,?_,hT,hE.trans hE2,hR3,hI⟩,?_⟩
   ·rw [List.length_append]; simp only [List.length_cons,List.length_nil]; omega
   ·simp only [intOf,Int.toNat_natCast]; omega
  ·cases hT
theorem E4 {g:Nat} (hT:sd g) (hR:mw g) {s:Bs} {i d:Nat} {ts:List T} {n:Nat} {t:T} {e:Nat} (h1:gy g s i d 93 124 []=some (ts,n))
  (h2:(sgn s n 93=true/\t=gH ts Ni/\e=n+1) ∨ (sgn s n 93=false/\∃ u m,gw g s (n+1) d 3=some (u,m)/\sgn s m 93=true/\t=gH ts u/\e=m+1))
  (hs:s.length<=100000) (hi:i<=s.length) (hd:d<=100) (S:al):Tri Tryz.prog Em [.string (st s),.int .i64 (i:Int),.int .i64 (d:Int)] [] S (Kp t e):=by
 intro w hI
 have hle:=(fS g).2.2.2 _ _ _ _ _ _ _ _ h1
 have hln:=BG _ _ _ _ _ _ _ _ _ h1
 simp only [List.length_nil] at hln
 refine wh ?_
 unfold rf
 refine bi hI bH fun b6 w' hI=>?_
 refine Run.call0E rq sq hI (hT s i d 93 124 ts n S h1 hs hi hd) fun v I' S1 w'=>?_
 rintro ⟨rfl,u,rfl,hu⟩ hE1 hI
 have hI:Inv w [] [.blk b6 (.cells #[.int .i64 0,.int .i64 0,.string ⟨#[]⟩,.slice none 0 0] ab)] S1 w':=hI
 refine aB (v:=u) rfl ?_
 refine aB (v:=.int .i64 (n:Int)) rfl ?_
 refine ey (by omega) ?_
 refine aS (fun hb=>by cases hb) (fun _=>?_)
 refine Run.callPure cF cG hI (cz s n 93 S1) fun w' hI=>?_
 rcases h2 with ⟨h3,rfl,rfl⟩|⟨h3,x,m,h4,h5,rfl,rfl⟩
 ·rw [h3]
  refine aS (fun _=>?_) (fun hb=>by cases hb)
  refine Run.call0E dq dr hI (er ⟨#[91,93]⟩ (by decide +kernel) (kF S1) (by simp)) fun v I' S2 w'=>?_
  rintro ⟨rfl,cs,rfl,hcs⟩ hE2 hI
  refine Run.call0E sD rb hI (oK (hu.monoT hE2.1) hcs (by omega)) fun v I' S3 w'=>?_
  rintro ⟨rfl,ds,rfl,hds⟩ hE3 hI
  refine ew (a:=n) (b:=1) rfl rfl (by omega) ?_
  obtain ⟨kv,rfl,_,_,_,a,k,rfl,_⟩:=RdT.iff.1 hds
  refine aG hI 0 rfl ai rfl rfl (by simp [Value.oneCell']) fun w' hI=>?_
  refine bE hI 0 ai rfl rfl ?_
  exact ⟨_,[],S3,rfl,hI.nil,(hE1.trans hE2).trans hE3,rfl,_,rfl,hds⟩
 ·rw [h3]
  refine aS (fun hb=>by cases hb) (fun _=>?_)
  refine ew (a:=n) (b:=1) rfl rfl (by omega) ?_
  have hle2:=(fS g).1 _ _ _ _ _ _ h4
  refine Run.call0E eJ eM hI (hR s (n+1) d 3 x m S1 h4 hs (by omega) hd (by omega)) fun v I' S2 w'=>?_
  rintro ⟨rfl,cs,rfl,hcs⟩ hE2 hI
  obtain ⟨kv,rfl,_,_,_,a,k,rfl,_⟩:=RdT.iff.1 hcs
  refine aB (v:=.agg _) rfl ?_
  refine aB (v:=.int .i64 (m:Int)) rfl ?_
  refine bi hI bH fun b10 w' hI=>?_
  refine aG hI 1 rfl ai rfl rfl (by simp [Value.oneCell']) fun w' hI=>?_
  refine ey (by omega) ?_
  refine aS (fun hb=>by cases hb) (fun _=>?_)
  refine Run.callPure cF cG hI (cz s m 93 S2) fun w' hI=>?_
  refine cK ?_
  rw [h5]
  refine aS (fun hb=>by cases hb) (fun _=>?_)
  refine aL hI 1 ai rfl rfl ?_
  refine Run.call0E sD rb hI (oK (hu.monoT hE2.1) hcs (by omega)) fun v I' S3 w'=>?_
  rintro ⟨rfl,ds,rfl,hds⟩ hE3 hI
  refine ew (a:=m) (b:=1) rfl rfl (by omega) ?_
  obtain ⟨kv,rfl,_,_,_,a,k,rfl,_⟩:=RdT.iff.1 hds
  refine aG hI 0 rfl ai rfl rfl (by simp [Value.oneCell']) fun w' hI=>?_
  refine bE hI 0 ai rfl rfl ?_
  exact ⟨_,[],S3,rfl,hI.nil,(hE1.trans hE2).trans hE3,rfl,_,rfl,hds⟩
theorem CW {n:Bs} (h:n.length<=6):(st n).size<=maxLen:=by rw [iv]; simp only [maxLen]; omega
theorem KB {f:Nat} (ihR:∀ g,g<f->mw g) (ihT:∀ g,g<f->sd g):Dj f:=by
 intro s i d t n S h hs hi hd w hI
 cases f with
 | zero=>simp [pC] at h
 | succ g=>
 have hR:=ihR g (by omega)
 have hT:=ihT g (by omega)
 have hle:=(fS (g+1)).2.2.1 _ _ _ _ _ h
 rw [pC] at h
 split at h
 ·cases h
 rename_i h0
 have hd0:1<=d:=by omega
 have hlt:i<s.length:=by omega
 refine wA ?_
 unfold rj
 refine bi hI bH fun b6 w' hI=>?_
 have hI:Inv w [] [.blk b6 (.cells #[.int .i64 0,.int .i64 0,.string ⟨#[]⟩,.slice none 0 0] ab)] S w':=hI
 refine ⟨fun b w'=>b=.bool false/\Inv w [] [.blk b6 (.cells #[.int .i64 0,.int .i64 0,.string ⟨#[]⟩,.slice none 0 0] ab)] S w',?_,?_⟩
 ·refine ey (by omega) ?_
  repeat (first|refine ad ?_|refine af (by decide) ?_|refine ae ?_|refine ak ?_|refine aj ?_)
  refine eN bl ?_
  refine tg (by omega) ?_
  repeat (first|refine ad ?_|refine af (by decide) ?_|refine ae ?_|refine ak ?_|refine aj ?_)
  exact ⟨rfl,hI⟩
 intro t23 _ _ _ _ _ _ _ w'
 rintro ⟨rfl,hI⟩
 refine aS (fun hb=>by cases hb) (fun _=>?_)
 refine dZ bl hlt ?_
 split at h
 ·rename_i h40
  rw [i7 hlt,decide_eq_true_eq] at h40
  refine fe (by omega) ?_
  refine aS (fun _=>?_) (fun hb=>by cases hb)
  split at h
  ·cases h
  rename_i u m hr
  split at h
  ·rename_i h41
   simp only [Option.some.injEq,Prod.mk.injEq] at h
   obtain ⟨rfl,rfl⟩:=h
   have hle2:=(fS g).1 _ _ _ _ _ _ hr
   refine ew (a:=i) (b:=1) rfl rfl (by omega) ?_
   refine Run.call0E eJ eM hI (hR s (i+1) d 3 u m S hr hs (by omega) hd (by omega)) fun v I' S2 w'=>?_
   rintro ⟨rfl,cs,rfl,hcs⟩ hE2 hI
   obtain ⟨kv,rfl,_,_,_,a,k,rfl,_⟩:=RdT.iff.1 hcs
   refine aB (v:=.agg _) rfl ?_
   refine aB (v:=.int .i64 (m:Int)) rfl ?_
   refine bi hI bH fun b8 w' hI=>?_
   refine aG hI 1 rfl ai rfl rfl (by simp [Value.oneCell']) fun w' hI=>?_
   refine ey (by omega) ?_
   refine aS (fun hb=>by cases hb) (fun _=>?_)
   refine Run.callPure cF cG hI (cz s m 41 S2) fun w' hI=>?_
   refine cK ?_
   rw [h41]
   refine aS (fun hb=>by cases hb) (fun _=>?_)
   refine aL hI 1 ai rfl rfl ?_
   refine ew (a:=m) (b:=1) rfl rfl (by omega) ?_
   refine aG hI 0 rfl ai rfl rfl (by simp [Value.oneCell']) fun w' hI=>?_
   refine bE hI 0 ai rfl rfl ?_
   exact ⟨_,[],S2,rfl,hI.nil,hE2,rfl,_,rfl,hcs⟩
  ·cases h
 rename_i h40
 rw [i7 hlt,decide_eq_true_eq] at h40
 refine ei (by omega) ?_
 refine aS (fun hb=>by cases hb) (fun _=>?_)
 refine ⟨fun b w'=>b=.bool (sgn s i 91 && !sgn s (i+1) 93)/\Inv w [] [.blk b6 (.cells #[.int .i64 0,.int .i64 0,.string ⟨#[]⟩,.slice none 0 0] ab)] S w',?_,?_⟩
 ·refine dZ bl hlt ?_
  by_cases h91:s[i].toNat=91
  ·refine fe (by omega) ?_
   repeat (first|refine ad ?_|refine af (by decide) ?_|refine ae ?_|refine ak ?_|refine aj ?_)
   refine ew (a:=i) (b:=1) rfl rfl (by omega) ?_
   refine Run.callPure cF cG hI (cz s (i+1) 93 S) fun w' hI=>?_
   refine cK ?_
   repeat (first|refine ad ?_|refine af (by decide) ?_|refine ae ?_|refine ak ?_|refine aj ?_)
   exact ⟨by rw [i7 hlt,decide_eq_true h91,Bool.true_and],hI⟩
  ·refine ei (by omega) ?_
   repeat (first|refine ad ?_|refine af (by decide) ?_|refine ae ?_|refine ak ?_|refine aj ?_)
   exact ⟨by rw [i7 hlt,decide_eq_false h91,Bool.false_and],hI⟩
 intro t65 _ _ _ _ _ _ _ _ _ _ w'
 rintro ⟨rfl,hI⟩
 split at h
 ·rename_i h91
  rw [h91.1,h91.2]
  refine aS (fun _=>?_) (fun hb=>by cases hb)
  split at h
  ·cases h
  rename_i ts m hts
  have h2:(sgn s m 93=true/\t=gH ts Ni/\n=m+1) ∨ (sgn s m 93=false/\∃ u k,gw g s (m+1) (d - 1) 3=some (u,k)/\sgn s k 93=true/\t=gH ts u/\n=k+1):=by
   split at h
   ·rename_i h3
    simp only [Option.some.injEq,Prod.mk.injEq] at h
    exact .inl ⟨h3,h.1.symm,h.2.symm⟩
   ·rename_i h3
    split at h
    ·cases h
    rename_i u k hr
    split at h
    ·rename_i h4
     simp only [Option.some.injEq,Prod.mk.injEq] at h
     exact .inr ⟨Bool.eq_false_iff.2 h3,u,k,hr,h4,h.1.symm,h.2.symm⟩
    ·cases h
  refine ew (a:=i) (b:=1) rfl rfl (by omega) ?_
  refine yo (a:=d) (b:=1) rfl rfl hd0 (by omega) ?_
  refine Run.call0E DK CT hI (E4 hT hR hts h2 hs (by omega) (by omega) S) fun v I' S2 w'=>?_
  rintro ⟨rfl,cs,rfl,hcs⟩ hE2 hI
  obtain ⟨kv,rfl,_,_,_,a,k,rfl,_⟩:=RdT.iff.1 hcs
  refine aB (v:=.agg _) rfl ?_
  refine aB (v:=.int .i64 (n:Int)) rfl ?_
  refine aG hI 0 rfl ai rfl rfl (by simp [Value.oneCell']) fun w' hI=>?_
  refine bE hI 0 ai rfl rfl ?_
  exact ⟨_,[],S2,rfl,hI.nil,hE2,rfl,_,rfl,hcs⟩
 rename_i h91
 have e91:(sgn s i 91 && !sgn s (i+1) 93)=false:=by
  cases h5:sgn s i 91
  ·rfl
  ·cases h6:sgn s (i+1) 93
   ·exact absurd ⟨h5,h6⟩ h91
   ·rfl
 rw [e91]
 refine aS (fun hb=>by cases hb) (fun _=>?_)
 refine ⟨fun b w'=>b=.bool (upp s i)/\Inv w [] [.blk b6 (.cells #[.int .i64 0,.int .i64 0,.string ⟨#[]⟩,.slice none 0 0] ab)] S w',?_,?_⟩
 ·refine dZ bl hlt ?_
  by_cases h65:65<=s[i].toNat
  ·refine kU (by omega) ?_
   repeat (first|refine ad ?_|refine af (by decide) ?_|refine ae ?_|refine ak ?_|refine aj ?_)
   refine dZ bl hlt ?_
   refine fi ?_
   repeat (first|refine ad ?_|refine af (by decide) ?_|refine ae ?_|refine ak ?_|refine aj ?_)
   refine ⟨?_,hI⟩
   rw [upp,kR hlt,decide_eq_true h65,Bool.true_and]
   congr 1
   rw [decide_eq_decide]
   omega
  ·refine tg (by omega) ?_
   repeat (first|refine ad ?_|refine af (by decide) ?_|refine ae ?_|refine ak ?_|refine aj ?_)
   exact ⟨by rw [upp,kR hlt,decide_eq_false h65,Bool.false_and],hI⟩
 intro t83 _ _ _ _ _ _ _ _ _ w'
 rintro ⟨rfl,hI⟩
 split at h
 ·rename_i hup
  simp only [Option.some.injEq,Prod.mk.injEq] at h
  obtain ⟨rfl,rfl⟩:=h
  rw [hup]
  rw [upp,kR hlt,Bool.and_eq_true,decide_eq_true_eq,decide_eq_true_eq] at hup
  refine aS (fun _=>?_) (fun hb=>by cases hb)
  refine dZ bl hlt ?_
  refine Lc (c:=(s[i].toNat:Int) - 65) (IntWalk.u8_in _ (by omega)) ?_
  refine mQ fq mX (IntWalk.i64_in _ (by omega)) ?_
  refine Run.callPure zd yl hI (n7 _ S) fun w' hI=>?_
  refine ew (a:=i) (b:=1) rfl rfl (by omega) ?_
  refine aG hI 0 rfl ai rfl rfl (by simp [Value.oneCell']) fun w' hI=>?_
  refine bE hI 0 ai rfl rfl ?_
  have eg:((s.getD i 0).toNat:Int) - 65=(s[i].toNat:Int) - 65:=by rw [List.getD_eq_getElem?_getD,List.getElem?_eq_getElem hlt]; rfl
  rw [eg]
  exact ⟨_,[],S,rfl,hI.nil,Ext.refl _ _ _,rfl,_,rfl,RdT.nil (by simp [inI]) (by unfold inI; omega) (by decide +kernel) (Nat.zero_le _)⟩
 rename_i hup
 rw [Bool.eq_false_iff.2 hup]
 refine aS (fun hb=>by cases hb) (fun _=>?_)
 refine ⟨fun b w'=>b=.bool (dig s i || (sgn s i 45 && dig s (i+1)))/\Inv w [] [.blk b6 (.cells #[.int .i64 0,.int .i64 0,.string ⟨#[]⟩,.slice none 0 0] ab)] S w',?_,?_⟩
 ·refine Run.callPure ir iu hI (fR s i S) fun w' hI=>?_
  cases hdi:dig s i
  ·repeat (first|refine ad ?_|refine af (by decide) ?_|refine ae ?_|refine ak ?_|refine aj ?_)
   refine dZ bl hlt ?_
   by_cases h45:s[i].toNat=45
   ·refine fe (by omega) ?_
    repeat (first|refine ad ?_|refine af (by decide) ?_|refine ae ?_|refine ak ?_|refine aj ?_)
    refine ew (a:=i) (b:=1) rfl rfl (by omega) ?_
    refine Run.callPure ir iu hI (fR s (i+1) S) fun w' hI=>?_
    repeat (first|refine ad ?_|refine af (by decide) ?_|refine ae ?_|refine ak ?_|refine aj ?_)
    exact ⟨by rw [i7 hlt,decide_eq_true h45,Bool.true_and,Bool.false_or],hI⟩
   ·refine ei (by omega) ?_
    repeat (first|refine ad ?_|refine af (by decide) ?_|refine ae ?_|refine ak ?_|refine aj ?_)
    exact ⟨by rw [i7 hlt,decide_eq_false h45,Bool.false_and,Bool.false_or],hI⟩
  ·repeat (first|refine ad ?_|refine af (by decide) ?_|refine ae ?_|refine ak ?_|refine aj ?_)
   exact ⟨by rw [Bool.true_or],hI⟩
 intro t106 _ _ _ _ _ _ _ _ _ _ _ _ _ _ w'
 rintro ⟨rfl,hI⟩
 split at h
 ·rename_i hdg
  have:(dig s i || (sgn s i 45 && dig s (i+1)))=true:=by rw [Bool.or_eq_true,Bool.and_eq_true]; exact hdg
  rw [this]
  refine aS (fun _=>?_) (fun hb=>by cases hb)
  obtain ⟨k,hk,rfl,_,_,hnum⟩:=yV h (by omega) S
  refine Run.callPure Ar zH hI hnum fun w' hI=>?_
  refine aB (v:=xB 2 k) rfl ?_
  refine aB (v:=.int .i64 (n:Int)) rfl ?_
  refine bi hI bH fun b10 w' hI=>?_
  refine aG hI 1 rfl ai rfl rfl (by simp [Value.oneCell']) fun w' hI=>?_
  refine ey (by omega) ?_
  refine aS (fun hb=>by cases hb) (fun _=>?_)
  refine aL hI 1 ai rfl rfl ?_
  refine aG hI 0 rfl ai rfl rfl (by simp [Value.oneCell']) fun w' hI=>?_
  refine bE hI 0 ai rfl rfl ?_
  exact ⟨_,[],S,rfl,hI.nil,Ext.refl _ _ _,rfl,_,rfl,RdT.nil (by simp [inI]) hk (by decide +kernel) (Nat.zero_le _)⟩
 rename_i hdg
 have:(dig s i || (sgn s i 45 && dig s (i+1)))=false:=by
  rw [Bool.eq_false_iff,ne_eq,Bool.or_eq_true,Bool.and_eq_true]; exact hdg
 rw [this]
 refine aS (fun hb=>by cases hb) (fun _=>?_)
 refine Run.callPure uo uG hI (pZ hlt hs S) fun w' hI=>?_
 cases hnm:qV s i with
 | none=>rw [hnm] at h; cases h
 | some q=>
 obtain ⟨name,m⟩:=q
 rw [hnm] at h
 simp only [] at h
 simp only [Iq]
 have hnl:=sr hlt hnm
 refine aB (v:=.string (st name)) rfl ?_
 refine aB (v:=.int .i64 (m:Int)) rfl ?_
 refine ey (by omega) ?_
 refine aS (fun hb=>by cases hb) (fun _=>?_)
 refine Run.callPure cF cG hI (cz s m 40 S) fun w' hI=>?_
 refine cK ?_
 split at h
 ·rename_i h40'
  simp only [Option.some.injEq,Prod.mk.injEq] at h
  obtain ⟨rfl,rfl⟩:=h
  rw [h40']
  refine aS (fun _=>?_) (fun hb=>by cases hb)
  refine Run.call0E dq dr hI (er (st name) (CW hnl.2.2.1) (kF S) (by simp)) fun v I' S2 w'=>?_
  rintro ⟨rfl,cs,rfl,hcs⟩ hE2 hI
  obtain ⟨kv,rfl,_,_,_,a,k,rfl,_⟩:=RdT.iff.1 hcs
  refine aG hI 0 rfl ai rfl rfl (by simp [Value.oneCell']) fun w' hI=>?_
  refine bE hI 0 ai rfl rfl ?_
  exact ⟨_,[],S2,rfl,hI.nil,hE2,rfl,_,rfl,hcs⟩
 ·rename_i h40'
  rw [Bool.not_eq_false] at h40'
  rw [h40']
  refine aS (fun hb=>by cases hb) (fun _=>?_)
  split at h
  ·cases h
  rename_i ts k hts
  simp only [Option.some.injEq,Prod.mk.injEq] at h
  obtain ⟨rfl,rfl⟩:=h
  have hm:=gz h40'
  have hle2:=(fS g).2.2.2 _ _ _ _ _ _ _ _ hts
  refine ew (a:=m) (b:=1) rfl rfl (by omega) ?_
  refine yo (a:=d) (b:=1) rfl rfl hd0 (by omega) ?_
  refine Run.call0E rq sq hI (hT s (m+1) (d - 1) 41 41 ts k S hts hs (by omega) (by omega)) fun v I' S2 w'=>?_
  rintro ⟨rfl,u,rfl,hu⟩ hE2 hI
  refine aB (v:=u) rfl ?_
  refine aB (v:=.int .i64 (k:Int)) rfl ?_
  refine ey (by omega) ?_
  refine aS (fun hb=>by cases hb) (fun _=>?_)
  obtain ⟨a,c,rfl,_⟩:=id hu
  refine oz ⟨_,_,_,rfl⟩ ?_
  refine ew (a:=k) (b:=1) rfl rfl (by omega) ?_
  refine aG hI 0 rfl ai rfl rfl (by simp [Value.oneCell']) fun w' hI=>?_
  refine bE hI 0 ai rfl rfl ?_
  exact ⟨_,[],S2,rfl,hI.nil,hE2,rfl,_,rfl,RdT.iff.2 ⟨_,rfl,by simp [inI,T.kind,Fy],by simp [inI,T.n,Fy],CW hnl.2.2.1,hu⟩⟩
theorem LT {f:Nat} (ihR:∀ g,g<f->mw g) (ihP:∀ g,g<f->Dj g):mw f:=by
 intro s i d l t n S h hs hi hd hl w hI
 cases f with
 | zero=>simp [gw] at h
 | succ f=>
 refine xk ?_
 unfold vg
 refine bi hI bH fun b8 w' hI=>?_
 have hI:Inv w [] [.blk b8 (.cells #[.int .i64 0,.int .i64 0,.string ⟨#[]⟩,.slice none 0 0] ab)] S w':=hI
 cases l with
 | zero=>
  rw [gw] at h
  refine fe rfl ?_
  refine aS (fun _=>?_) (fun hb=>by cases hb)
  refine Run.call0E CP Co hI (ihP f (by omega) s i d t n S h hs hi hd) fun v I' S2 w'=>?_
  rintro ⟨rfl,cs,rfl,hcs⟩ hE2 hI
  obtain ⟨kv,rfl,_,_,_,a,k,rfl,_⟩:=RdT.iff.1 hcs
  refine aB (v:=.agg _) rfl ?_
  refine aB (v:=.int .i64 (n:Int)) rfl ?_
  refine aG hI 0 rfl ai rfl rfl (by simp [Value.oneCell']) fun w' hI=>?_
  refine bE hI 0 ai rfl rfl ?_
  exact ⟨_,[],S2,rfl,hI.nil,hE2,rfl,_,rfl,hcs⟩
 | succ l=>
  rw [gw] at h
  split at h
  ·cases h
  rename_i t0 n0 hr
  have hle:=(fS f).1 _ _ _ _ _ _ hr
  refine ei (by omega) ?_
  refine aS (fun hb=>by cases hb) (fun _=>?_)
  refine yo (a:=l+1) (b:=1) rfl rfl (by omega) (by omega) ?_
  rw [Nat.add_sub_cancel]
  refine Run.call0E eJ eM hI (ihR f (by omega) s i d l t0 n0 S hr hs hi hd (by omega)) fun v I' S1 w'=>?_
  rintro ⟨rfl,cs,rfl,hcs⟩ hE1 hI
  obtain ⟨kv,rfl,_,_,_,a,k,rfl,_⟩:=RdT.iff.1 hcs
  refine aB (v:=.agg _) rfl ?_
  refine aB (v:=.int .i64 (n0:Int)) rfl ?_
  refine bi hI bH fun b10 w' hI=>?_
  refine aG hI 1 rfl ai rfl rfl (by simp [Value.oneCell']) fun w' hI=>?_
  refine ⟨fun a w'=>∃ (f' n':Nat) (t':T) (ds:List Value) (S1:al),f'<=f/\a=.int .i64 (n':Int)/\n'<=s.length/\Fj f' s n' d l t'=some (t,n)/\Ext w.heap.size [] S S1/\RdT S1 ds t'/\Inv w [] [.blk b8 (.cells #[.int .i64 0,.int .i64 0,.string ⟨#[]⟩,.slice none 0 0] ab),.blk b10 (.cells ds.toArray ab)] S1 w',
   fun a _=>s.length+1 - (intOf a).toNat,⟨f,n0,t0,_,S1,Nat.le_refl _,rfl,hle.2,h,hE1,hcs,hI⟩,?_⟩
  clear h hE1 hcs hI hr hle
  intro _ _ _ _ t11 _ _ _ _ _ _ _ _ _ _ _ _ _ _ _ _ _ _ _ _ _ _ _ _ _ _ _ _ _ _ _ _ _ _ _ _ _ _ _ _ _ _ w'
  rintro ⟨f',n',t',ds,S1,hf',rfl,hn',ho,hE,hds,hI⟩
  obtain ⟨kd,rfl,_,_,hts',da,dm,rfl,_⟩:=RdT.iff.1 hds
  cases f' with
  | zero=>simp [Fj] at ho
  | succ g=>
  rw [Fj] at ho
  refine kU (by omega) ?_
  refine aS (fun _=>?_) (fun hb=>by cases hb)
  refine Run.callPure Jh Jq hI (Ie hs hn' S1) fun w' hI=>?_
  cases hop:opF s n' with
  | none=>
   rw [hop] at ho
   simp only [Option.some.injEq,Prod.mk.injEq] at ho
   obtain ⟨rfl,rfl⟩:=ho
   simp only [opV]
   refine aB (v:=.string ⟨#[]⟩) rfl ?_
   refine aB (v:=.int .i64 (n':Int)) rfl ?_
   refine ⟨fun b w'=>b=.bool true/\Inv w [] [.blk b8 (.cells #[.int .i64 0,.int .i64 0,.string ⟨#[]⟩,.slice none 0 0] ab),.blk b10 (.cells #[.int .i64 t'.kind,.int .i64 t'.n,.string t'.name,.slice da t'.kids.length dm] ab)] S1 w',?_,?_⟩
   ·refine bJ ?_
    rw [decide_eq_true rfl]
    repeat (first|refine ad ?_|refine af (by decide) ?_|refine ae ?_|refine ak ?_|refine aj ?_)
    exact ⟨rfl,hI⟩
   intro t48 _ _ _ _ _ _ _ w'
   rintro ⟨rfl,hI⟩
   refine aS (fun _=>?_) (fun hb=>by cases hb)
   refine aL hI 1 ai rfl rfl ?_
   refine aG hI 0 rfl ai rfl rfl (by simp [Value.oneCell']) fun w' hI=>?_
   refine bE hI 0 ai rfl rfl ?_
   exact ⟨_,[],S1,rfl,hI.nil,hE,rfl,_,rfl,hds⟩
  | some q=>
   obtain ⟨name,after⟩:=q
   rw [hop] at ho
   simp only [] at ho
   simp only [opV]
   have hol:=Lb hop
   refine aB (v:=.string (st name)) rfl ?_
   refine aB (v:=.int .i64 (after:Int)) rfl ?_
   refine ⟨fun b w'=>b=.bool (!decide (cq (st name)=((l+1:Nat):Int)))/\Inv w [] [.blk b8 (.cells #[.int .i64 0,.int .i64 0,.string ⟨#[]⟩,.slice none 0 0] ab),.blk b10 (.cells #[.int .i64 t'.kind,.int .i64 t'.n,.string t'.name,.slice da t'.kids.length dm] ab)] S1 w',?_,?_⟩
   ·refine xC (b:=[]) ?_
    rw [decide_eq_false hol.2.2.2]
    repeat (first|refine ad ?_|refine af (by decide) ?_|refine ae ?_|refine ak ?_|refine aj ?_)
    refine Run.callPure eq ev hI (cY _ S1) fun w' hI=>?_
    refine dB ?_
    repeat (first|refine ad ?_|refine af (by decide) ?_|refine ae ?_|refine ak ?_|refine aj ?_)
    exact ⟨rfl,hI⟩
   intro t48 _ _ _ _ _ _ _ w'
   rintro ⟨rfl,hI⟩
   split at ho
   ·rename_i hlv
    rw [decide_eq_true hlv]
    refine aS (fun hb=>by cases hb) (fun _=>?_)
    split at ho
    ·cases ho
    rename_i r e hr
    have hle:=(fS g).1 _ _ _ _ _ _ hr
    refine yo (a:=l+1) (b:=1) rfl rfl (by omega) (by omega) ?_
    rw [Nat.add_sub_cancel]
    refine Run.call0E eJ eM hI (ihR g (by omega) s after d l r e S1 hr hs (by omega) hd (by omega)) fun v I' S2 w'=>?_
    rintro ⟨rfl,es,rfl,hes⟩ hE2 hI
    obtain ⟨ke,rfl,_,_,_,ea,em,rfl,_⟩:=RdT.iff.1 hes
    refine aB (v:=.agg _) rfl ?_
    refine aB (v:=.int .i64 (e:Int)) rfl ?_
    refine bi hI bH fun b14 w' hI=>?_
    refine aG hI 2 rfl ai rfl rfl (by simp [Value.oneCell']) fun w' hI=>?_
    refine ey (by omega) ?_
    refine aS (fun hb=>by cases hb) (fun _=>?_)
    refine aL hI 1 ai rfl rfl ?_
    refine aL hI 2 ai rfl rfl ?_
    refine lW (v:=fun b=>.slice (some ⟨b,0,none⟩) 2 2) (o:=.cells #[.int .i64 t'.kind,.int .i64 t'.n,.string t'.name,.slice da t'.kids.length dm,.int .i64 r.kind,.int .i64 r.n,.string r.name,.slice ea r.kids.length em] ab) hI (by kernel_rfl) fun b20 w' hI=>?_
    obtain ⟨S3,hI,hE3,hS3⟩:=Inv.pub1 (A:=[_,_,_]) hI
    have hks:=Hq hS3 (RdT.mono (hE2.1.trans hE3.1) hds) (RdT.mono hE3.1 hes)
    refine Run.call0E dq dr hI (er (st name) (CW hol.2.2.1) hks (by simp)) fun v I' S4 w'=>?_
    rintro ⟨rfl,gs,rfl,hgs⟩ hE4 hI
    obtain ⟨kg,rfl,_,_,_,ga,gm,rfl,_⟩:=RdT.iff.1 hgs
    have hE':=((hE.trans hE2).trans hE3).trans hE4
    refine aG hI 1 rfl ai rfl rfl (by simp [Value.oneCell']) fun w' hI=>?_
    split at ho
    ·rename_i hl2
     subst hl2
     simp only [Option.some.injEq,Prod.mk.injEq] at ho
     obtain ⟨rfl,rfl⟩:=ho
     refine fe rfl ?_
     refine aS (fun _=>?_) (fun hb=>by cases hb)
     refine aL hI 1 ai rfl rfl ?_
     refine aG hI 0 rfl ai rfl rfl (by simp [Value.oneCell']) fun w' hI=>?_
     refine bE hI 0 ai rfl rfl ?_
     exact ⟨_,[],S4,rfl,hI.nil,hE',rfl,_,rfl,hgs⟩
    ·refine ei (by omega) ?_
     refine aS (fun hb=>by cases hb) (fun _=>?_)
     refine ⟨⟨g,e,_,_,S4,by omega,rfl,hle.2,ho,hE',hgs,hI.pick [true,true,false]⟩,?_⟩
     simp only [intOf,Int.toNat_natCast]
     omega
   ·rename_i hlv
    rw [decide_eq_false hlv]
    simp only [Option.some.injEq,Prod.mk.injEq] at ho
    obtain ⟨rfl,rfl⟩:=ho
    refine aS (fun _=>?_) (fun hb=>by cases hb)
    refine aL hI 1 ai rfl rfl ?_
    refine aG hI 0 rfl ai rfl rfl (by simp [Value.oneCell']) fun w' hI=>?_
    refine bE hI 0 ai rfl rfl ?_
    exact ⟨_,[],S1,rfl,hI.nil,hE,rfl,_,rfl,hds⟩
theorem KJ:∀ F f,f<F->mw f/\Dj f/\sd f
 | 0,f,h=>by omega
 | F+1,f,h=>by
  have ih:=KJ F
  have hR:mw f:=LT (fun g hg=>(ih g (by omega)).1) (fun g hg=>(ih g (by omega)).2.1)
  have hT:sd f:=Ko fun g hg=>(ih g (by omega)).1
  exact ⟨hR,KB (fun g hg=>(ih g (by omega)).1) (fun g hg=>(ih g (by omega)).2.2),hT⟩
theorem s9 (f:Nat):mw f:=(KJ (f+1) f (by omega)).1
end

end Go.Proofs.YtfcbhfjomgopbaaGreat

/- The source of random numbers: spec.l18Open, pick, of, num. (printed by gen_rd.py) -/
namespace Go.Proofs.YtfcbhfjomgopbaaGreat
open Go Go.RowKit

def jd (cs:List Value) (n:Nat):Prop:=cs=[.int .u8 (n:Int)]/\n<256
abbrev rdI (br:Nat) (sl:Value) (p:Nat):Item:=.blk br (.cells #[sl,.int .i64 (p:Int)] D2)
abbrev rdP (br:Nat):Value:=.pointer (some ⟨br,0,none⟩)
section
variable {P:Program} {w:World} {K:Value->World->Prop}
theorem HS {T:TypeId} {cx cy:Bool} {x y:Int} {a b:Nat} (hx:x=a) (hy:y=b) (hb:0<b) (hk:K (.int .i64 ((a % b:Nat):Int)) w):Run P (cS .rem T cx cy (.int .i64 x) (.int .i64 y)) w K:=by
 subst hx hy
 exact HA hb hk
theorem H1 {T:TypeId} {cx cy:Bool} {x y:Int} {a b:Nat} (hx:x=a) (hy:y=b) (hb:0<b) (ha:a<=9223372036854775807) (hk:K (.int .i64 ((a / b:Nat):Int)) w):Run P (cS .quo T cx cy (.int .i64 x) (.int .i64 y)) w K:=by
 subst hx hy
 exact NR hb ha hk
theorem Nl {T:TypeId} {cx cy:Bool} {x y:Int} {a b:Nat} (hx:x=a) (hy:y=b) (ha:a<4611686018427387904) (hb:b<4611686018427387904) (hk:K (.int .i64 ((a ^^^ b:Nat):Int)) w):Run P (cS .xor T cx cy (.int .i64 x) (.int .i64 y)) w K:=by
 subst hx hy
 exact Nd ha hb hk
end
theorem RdSl.u8 {S:al} {sl:Value} {ys:List Nat} (h:RdSl S 1 jd sl ys) (h0:0<ys.length):∃ b o cap c E fz,sl=.slice (some ⟨b,o,none⟩) ys.length cap/\S b=some (.cells c E fz)/\
  ∀ i,i<ys.length->∃ y:Nat,c[o+i * 1]?=some (.int .u8 (y:Int))/\y<256:=by
 obtain ⟨a,cap,rfl,hl,hc,h⟩:=h
 rcases h with rfl|⟨b,o,c,E,fz,rfl,hS,hR⟩
 ·simp at h0
 ·refine ⟨b,o,cap,c,E,fz,rfl,hS,fun i hi=>?_⟩
  obtain ⟨h1,h2⟩:=hR i hi
  exact ⟨ys[i],bh h1 0 _ rfl,h2⟩
section
attribute [local irreducible] Run CondV ag aO
abbrev Oa (S:al) (br:Nat) (sl:Value) (p n:Nat):Value->List Item->al->Prop:=fun v I' S'=>S'=S/\I'=[rdI br sl (p+1)]/\∃ k:Nat,k<n/\v=.int .i64 (k:Int)
theorem cW {ys:List Nat} {S:al} {sl:Value} {br p n:Nat} (h:RdSl S 1 jd sl ys) (hp:p<=1000000000000) (hn:0<n):Tri Tryz.prog y8 [rdP br,.int .i64 (n:Int)] [rdI br sl p] S (Oa S br sl p n):=by
 intro w hI
 refine pg ?_
 unfold ly
 obtain ⟨X,hX⟩:∃ X,X=bW [rdI br sl p]:=⟨_,rfl⟩
 rw [<- hX] at hI ⊢
 have hsl:∃ a m cap,sl=.slice a m cap/\m=ys.length:=by
  obtain ⟨a,cap,e,_⟩:=h
  exact ⟨a,_,cap,e,rfl⟩
 refine cE ?_
 refine aI mq ?_
 refine aX hI 0 aY rfl rfl ?_
 refine bT (by omega) ?_
 refine cE ?_
 refine aI mq ?_
 refine dy hI 0 (n:=1) rfl (by decide +kernel) rfl (by simp) (by simp [Value.cells,Value.oneCell']) fun w' hI=>?_
 have hI:Inv w X [rdI br sl (p+1)] S w':=hI
 have hN:∃ N:Nat,N=ys.length:=⟨_,rfl⟩
 refine ⟨fun t w'=>t=.bool (decide (ys.length=0))/\Inv w X [rdI br sl (p+1)] S w',?_,?_⟩
 ·refine ey (by omega) ?_
  refine GE (fun _=>?_) (fun hb=>by simp at hb)
  refine cE ?_
  refine aI eI ?_
  refine aX hI 0 fY rfl rfl ?_
  refine bp h dL ?_
  refine bP ?_
  refine pm ?_
  refine ⟨?_,hI⟩
  simp
 intro t24 _ _ _ _ _ _ _ _ _ w'
 rintro ⟨rfl,hI⟩
 refine bz (fun _=>⟨_,_,_,rfl,hI,Ext.refl _ _ _,rfl,rfl,0,hn,rfl⟩) (fun h0=>?_)
 have h0:0<ys.length:=by omega
 obtain ⟨b,o,cap,c,E,fz,rfl,hS,hc⟩:=h.u8 h0
 refine cE ?_
 refine aI mq ?_
 refine aX hI 0 aY rfl rfl ?_
 refine ic (by omega) ?_
 have ep:((p+1:Nat):Int) - 1=(p:Int):=by omega
 rw [ep]
 refine cE ?_
 refine aI eI ?_
 refine aX hI 0 fY rfl rfl ?_
 refine eT dL ?_
 refine cg ?_
 refine bz (fun hlt=>?_) (fun _=>?_)
 ·have hlt':p<ys.length:=by omega
  obtain ⟨y,hy,hy2⟩:=hc p hlt'
  refine cE ?_
  refine aI eI ?_
  refine aX hI 0 fY rfl rfl ?_
  refine be dL hlt' ?_
  refine dc ya ((hI.cellS hS).trans hy) ?_
  refine mQ fq mX (IntWalk.i64_in _ (by omega)) ?_
  refine HA hn ?_
  exact ⟨_,_,_,rfl,hI,Ext.refl _ _ _,rfl,rfl,y % n,Nat.mod_lt _ hn,rfl⟩
 ·obtain ⟨i1,hd1⟩:∃ i1,i1=p % ys.length:=⟨_,rfl⟩
  obtain ⟨i2,hd2⟩:∃ i2,i2=(p * 7+3) % ys.length:=⟨_,rfl⟩
  obtain ⟨q,hdq⟩:∃ q,q=p / ys.length:=⟨_,rfl⟩
  have hi1:i1<ys.length:=by rw [hd1]; exact Nat.mod_lt _ h0
  have hi2:i2<ys.length:=by rw [hd2]; exact Nat.mod_lt _ h0
  have hq:q<=p:=by rw [hdq]; exact Nat.div_le_self ..
  obtain ⟨y1,hv1,hy1⟩:=hc i1 hi1
  obtain ⟨y2,hv2,hy2⟩:=hc i2 hi2
  skip
  refine ⟨fun D x6 KV Kl JV IQ JW Jr KO JX MS MR LI MV MZ K2 IH IB J3 JZ Kn K4 Lk J0 JY N8 NX NW Il EO zZ wJ xp wK wS u5 sy sJ tC uO pK jS sS tS uY pL lH w_=>(D 0=true->lH=.pointer (some ⟨br,0,none⟩))/\(D 1=true->pL=.pointer (some ⟨br,0,none⟩))/\(D 2=true->uY=.pointer (some ⟨br,0,none⟩))/\(D 3=true->tS=.slice (some ⟨b,o,none⟩) ys.length cap)/\(D 4=true->sS=.int .i64 (p:Int))/\(D 5=true->jS=.pointer (some ⟨br,0,none⟩))/\(D 6=true->pK=.pointer (some ⟨br,0,none⟩))/\(D 7=true->uO=.pointer (some ⟨br,0,none⟩))/\(D 8=true->tC=.slice (some ⟨b,o,none⟩) ys.length cap)/\(D 9=true->sJ=.int .i64 (ys.length:Int))/\(D 10=true->sy=.int .i64 (((i1:Nat):Int)))/\(D 11=true->u5=.pointer (some ⟨b,o+i1 * 1,none⟩))/\(D 12=true->wS=.int .u8 ((y1:Nat):Int))/\(D 13=true->wK=.int .i64 (((y1:Nat):Int)))/\(D 14=true->xp=.int .i64 ((((y1:Nat):Int) * 131)))/\(D 15=true->wJ=.pointer (some ⟨br,0,none⟩))/\(D 16=true->zZ=.pointer (some ⟨br,0,none⟩))/\(D 17=true->EO=.pointer (some ⟨br,0,none⟩))/\(D 18=true->Il=.slice (some ⟨b,o,none⟩) ys.length cap)/\(D 19=true->NW=.int .i64 (p:Int))/\(D 20=true->NX=.int .i64 (((p:Int) * 7)))/\(D 21=true->N8=.int .i64 ((((p:Int) * 7)+3)))/\(D 22=true->JY=.pointer (some ⟨br,0,none⟩))/\(D 23=true->J0=.pointer (some ⟨br,0,none⟩))/\(D 24=true->Lk=.pointer (some ⟨br,0,none⟩))/\(D 25=true->K4=.slice (some ⟨b,o,none⟩) ys.length cap)/\(D 26=true->Kn=.int .i64 (ys.length:Int))/\(D 27=true->JZ=.int .i64 (((i2:Nat):Int)))/\(D 28=true->J3=.pointer (some ⟨b,o+i2 * 1,none⟩))/\(D 29=true->IB=.int .u8 ((y2:Nat):Int))/\(D 30=true->IH=.int .i64 (((y2:Nat):Int)))/\(D 31=true->K2=.int .i64 ((((y2:Nat):Int) * 1117)))/\(D 32=true->MZ=.int .i64 (((((y1:Nat):Int) * 131)+(((y2:Nat):Int) * 1117))))/\(D 33=true->MV=.int .i64 (p:Int))/\(D 34=true->LI=.int .i64 (((p:Int) * 29)))/\(D 35=true->MR=.int .i64 ((((((y1:Nat):Int) * 131)+(((y2:Nat):Int) * 1117))+((p:Int) * 29))))/\(D 36=true->MS=.int .i64 (p:Int))/\(D 37=true->JX=.pointer (some ⟨br,0,none⟩))/\(D 38=true->KO=.pointer (some ⟨br,0,none⟩))/\(D 39=true->Jr=.pointer (some ⟨br,0,none⟩))/\(D 40=true->JW=.slice (some ⟨b,o,none⟩) ys.length cap)/\(D 41=true->IQ=.int .i64 (ys.length:Int))/\(D 42=true->JV=.int .i64 (((q:Nat):Int)))/\(D 43=true->Kl=.int .i64 ((((q:Nat):Int) * 53)))/\(D 44=true->KV=.int .i64 (((((((y1:Nat):Int) * 131)+(((y2:Nat):Int) * 1117))+((p:Int) * 29))+(((q:Nat):Int) * 53))))/\(D 45=true->x6=.int .i64 (((((((y1:Nat):Int) * 131)+(((y2:Nat):Int) * 1117))+((p:Int) * 29))+(((q:Nat):Int) * 53))))/\Inv w X [rdI br (.slice (some ⟨b,o,none⟩) ys.length cap) (p+1)] S w_,⟨ac,ac,ac,ac,ac,ac,ac,ac,ac,ac,ac,ac,ac,ac,ac,ac,ac,ac,ac,ac,ac,ac,ac,ac,ac,ac,ac,ac,ac,ac,ac,ac,ac,ac,ac,ac,ac,ac,ac,ac,ac,ac,ac,ac,ac,ac,hI.draw⟩,⟨?_,?_,?_,?_,?_,?_,?_,?_,?_,?_,?_,?_,?_,?_,?_,?_,?_,?_,?_,?_,?_,?_,?_,?_,?_,?_,?_,?_,?_,?_,?_,?_,?_,?_,?_,?_,?_,?_,?_,?_,?_,?_,?_,?_,?_,?_,trivial⟩,?_⟩
  all_goals (intro D bX; intros; rename_i x6 KV Kl JV IQ JW Jr KO JX MS MR LI MV MZ K2 IH IB J3 JZ Kn K4 Lk J0 JY N8 NX NW Il EO zZ wJ xp wK wS u5 sy sJ tC uO pK jS sS tS uY pL lH w_ hA_; obtain ⟨ax,ay,az,aA,aF,aH,aE,aM,aN,aR,aq,ar,aD,aP,aQ,aT,aU,aV,aZ,bg,bk,bt,bL,bK,bN,dH,dD,dJ,dO,dN,dU,dM,dF,dP,dX,dK,dQ,dE,dI,dY,dS,dT,dR,dV,dG,ef,hI⟩:=hA_)
  ·exact ⟨fun _=>rfl,ay,az,aA,aF,aH,aE,aM,aN,aR,aq,ar,aD,aP,aQ,aT,aU,aV,aZ,bg,bk,bt,bL,bK,bN,dH,dD,dJ,dO,dN,dU,dM,dF,dP,dX,dK,dQ,dE,dI,dY,dS,dT,dR,dV,dG,ef,hI⟩
  ·obtain rfl:=ax ‹_›
   refine cE ?_
   exact ⟨ax,fun _=>rfl,az,aA,aF,aH,aE,aM,aN,aR,aq,ar,aD,aP,aQ,aT,aU,aV,aZ,bg,bk,bt,bL,bK,bN,dH,dD,dJ,dO,dN,dU,dM,dF,dP,dX,dK,dQ,dE,dI,dY,dS,dT,dR,dV,dG,ef,hI⟩
  ·obtain rfl:=ay ‹_›
   refine aI eI ?_
   exact ⟨ax,ay,fun _=>rfl,aA,aF,aH,aE,aM,aN,aR,aq,ar,aD,aP,aQ,aT,aU,aV,aZ,bg,bk,bt,bL,bK,bN,dH,dD,dJ,dO,dN,dU,dM,dF,dP,dX,dK,dQ,dE,dI,dY,dS,dT,dR,dV,dG,ef,hI⟩
  ·obtain rfl:=az ‹_›
   refine aX hI 0 fY rfl rfl ?_
   exact ⟨ax,ay,az,fun _=>rfl,aF,aH,aE,aM,aN,aR,aq,ar,aD,aP,aQ,aT,aU,aV,aZ,bg,bk,bt,bL,bK,bN,dH,dD,dJ,dO,dN,dU,dM,dF,dP,dX,dK,dQ,dE,dI,dY,dS,dT,dR,dV,dG,ef,hI⟩
  ·exact ⟨ax,ay,az,aA,fun _=>rfl,aH,aE,aM,aN,aR,aq,ar,aD,aP,aQ,aT,aU,aV,aZ,bg,bk,bt,bL,bK,bN,dH,dD,dJ,dO,dN,dU,dM,dF,dP,dX,dK,dQ,dE,dI,dY,dS,dT,dR,dV,dG,ef,hI⟩
  ·exact ⟨ax,ay,az,aA,aF,fun _=>rfl,aE,aM,aN,aR,aq,ar,aD,aP,aQ,aT,aU,aV,aZ,bg,bk,bt,bL,bK,bN,dH,dD,dJ,dO,dN,dU,dM,dF,dP,dX,dK,dQ,dE,dI,dY,dS,dT,dR,dV,dG,ef,hI⟩
  ·obtain rfl:=aH ‹_›
   refine cE ?_
   exact ⟨ax,ay,az,aA,aF,aH,fun _=>rfl,aM,aN,aR,aq,ar,aD,aP,aQ,aT,aU,aV,aZ,bg,bk,bt,bL,bK,bN,dH,dD,dJ,dO,dN,dU,dM,dF,dP,dX,dK,dQ,dE,dI,dY,dS,dT,dR,dV,dG,ef,hI⟩
  ·obtain rfl:=aE ‹_›
   refine aI eI ?_
   exact ⟨ax,ay,az,aA,aF,aH,aE,fun _=>rfl,aN,aR,aq,ar,aD,aP,aQ,aT,aU,aV,aZ,bg,bk,bt,bL,bK,bN,dH,dD,dJ,dO,dN,dU,dM,dF,dP,dX,dK,dQ,dE,dI,dY,dS,dT,dR,dV,dG,ef,hI⟩
  ·obtain rfl:=aM ‹_›
   refine aX hI 0 fY rfl rfl ?_
   exact ⟨ax,ay,az,aA,aF,aH,aE,aM,fun _=>rfl,aR,aq,ar,aD,aP,aQ,aT,aU,aV,aZ,bg,bk,bt,bL,bK,bN,dH,dD,dJ,dO,dN,dU,dM,dF,dP,dX,dK,dQ,dE,dI,dY,dS,dT,dR,dV,dG,ef,hI⟩
  ·obtain rfl:=aN ‹_›
   refine eT dL ?_
   exact ⟨ax,ay,az,aA,aF,aH,aE,aM,aN,fun _=>rfl,aq,ar,aD,aP,aQ,aT,aU,aV,aZ,bg,bk,bt,bL,bK,bN,dH,dD,dJ,dO,dN,dU,dM,dF,dP,dX,dK,dQ,dE,dI,dY,dS,dT,dR,dV,dG,ef,hI⟩
  ·obtain rfl:=aF ‹_›
   obtain rfl:=aR ‹_›
   refine HS (a:=p) (b:=ys.length) (by omega) rfl h0 ?_; rw [<- hd1]
   exact ⟨ax,ay,az,aA,aF,aH,aE,aM,aN,aR,fun _=>rfl,ar,aD,aP,aQ,aT,aU,aV,aZ,bg,bk,bt,bL,bK,bN,dH,dD,dJ,dO,dN,dU,dM,dF,dP,dX,dK,dQ,dE,dI,dY,dS,dT,dR,dV,dG,ef,hI⟩
  ·obtain rfl:=aA ‹_›
   obtain rfl:=aq ‹_›
   refine be dL hi1 ?_
   exact ⟨ax,ay,az,aA,aF,aH,aE,aM,aN,aR,aq,fun _=>rfl,aD,aP,aQ,aT,aU,aV,aZ,bg,bk,bt,bL,bK,bN,dH,dD,dJ,dO,dN,dU,dM,dF,dP,dX,dK,dQ,dE,dI,dY,dS,dT,dR,dV,dG,ef,hI⟩
  ·obtain rfl:=ar ‹_›
   refine dc ya ((hI.cellS hS).trans hv1) ?_
   exact ⟨ax,ay,az,aA,aF,aH,aE,aM,aN,aR,aq,ar,fun _=>rfl,aP,aQ,aT,aU,aV,aZ,bg,bk,bt,bL,bK,bN,dH,dD,dJ,dO,dN,dU,dM,dF,dP,dX,dK,dQ,dE,dI,dY,dS,dT,dR,dV,dG,ef,hI⟩
  ·obtain rfl:=aD ‹_›
   refine mQ fq mX (IntWalk.i64_in _ (by omega)) ?_
   exact ⟨ax,ay,az,aA,aF,aH,aE,aM,aN,aR,aq,ar,aD,fun _=>rfl,aQ,aT,aU,aV,aZ,bg,bk,bt,bL,bK,bN,dH,dD,dJ,dO,dN,dU,dM,dF,dP,dX,dK,dQ,dE,dI,dY,dS,dT,dR,dV,dG,ef,hI⟩
  ·obtain rfl:=aP ‹_›
   refine yp (by omega) ?_
   exact ⟨ax,ay,az,aA,aF,aH,aE,aM,aN,aR,aq,ar,aD,aP,fun _=>rfl,aT,aU,aV,aZ,bg,bk,bt,bL,bK,bN,dH,dD,dJ,dO,dN,dU,dM,dF,dP,dX,dK,dQ,dE,dI,dY,dS,dT,dR,dV,dG,ef,hI⟩
  ·exact ⟨ax,ay,az,aA,aF,aH,aE,aM,aN,aR,aq,ar,aD,aP,aQ,fun _=>rfl,aU,aV,aZ,bg,bk,bt,bL,bK,bN,dH,dD,dJ,dO,dN,dU,dM,dF,dP,dX,dK,dQ,dE,dI,dY,dS,dT,dR,dV,dG,ef,hI⟩
  ·obtain rfl:=aT ‹_›
   refine cE ?_
   exact ⟨ax,ay,az,aA,aF,aH,aE,aM,aN,aR,aq,ar,aD,aP,aQ,aT,fun _=>rfl,aV,aZ,bg,bk,bt,bL,bK,bN,dH,dD,dJ,dO,dN,dU,dM,dF,dP,dX,dK,dQ,dE,dI,dY,dS,dT,dR,dV,dG,ef,hI⟩
  ·obtain rfl:=aU ‹_›
   refine aI eI ?_
   exact ⟨ax,ay,az,aA,aF,aH,aE,aM,aN,aR,aq,ar,aD,aP,aQ,aT,aU,fun _=>rfl,aZ,bg,bk,bt,bL,bK,bN,dH,dD,dJ,dO,dN,dU,dM,dF,dP,dX,dK,dQ,dE,dI,dY,dS,dT,dR,dV,dG,ef,hI⟩
  ·obtain rfl:=aV ‹_›
   refine aX hI 0 fY rfl rfl ?_
   exact ⟨ax,ay,az,aA,aF,aH,aE,aM,aN,aR,aq,ar,aD,aP,aQ,aT,aU,aV,fun _=>rfl,bg,bk,bt,bL,bK,bN,dH,dD,dJ,dO,dN,dU,dM,dF,dP,dX,dK,dQ,dE,dI,dY,dS,dT,dR,dV,dG,ef,hI⟩
  ·exact ⟨ax,ay,az,aA,aF,aH,aE,aM,aN,aR,aq,ar,aD,aP,aQ,aT,aU,aV,aZ,fun _=>rfl,bk,bt,bL,bK,bN,dH,dD,dJ,dO,dN,dU,dM,dF,dP,dX,dK,dQ,dE,dI,dY,dS,dT,dR,dV,dG,ef,hI⟩
  ·obtain rfl:=bg ‹_›
   refine yp (by omega) ?_
   exact ⟨ax,ay,az,aA,aF,aH,aE,aM,aN,aR,aq,ar,aD,aP,aQ,aT,aU,aV,aZ,bg,fun _=>rfl,bt,bL,bK,bN,dH,dD,dJ,dO,dN,dU,dM,dF,dP,dX,dK,dQ,dE,dI,dY,dS,dT,dR,dV,dG,ef,hI⟩
  ·obtain rfl:=bk ‹_›
   refine bT (by omega) ?_
   exact ⟨ax,ay,az,aA,aF,aH,aE,aM,aN,aR,aq,ar,aD,aP,aQ,aT,aU,aV,aZ,bg,bk,fun _=>rfl,bL,bK,bN,dH,dD,dJ,dO,dN,dU,dM,dF,dP,dX,dK,dQ,dE,dI,dY,dS,dT,dR,dV,dG,ef,hI⟩
  ·exact ⟨ax,ay,az,aA,aF,aH,aE,aM,aN,aR,aq,ar,aD,aP,aQ,aT,aU,aV,aZ,bg,bk,bt,fun _=>rfl,bK,bN,dH,dD,dJ,dO,dN,dU,dM,dF,dP,dX,dK,dQ,dE,dI,dY,dS,dT,dR,dV,dG,ef,hI⟩
  ·obtain rfl:=bL ‹_›
   refine cE ?_
   exact ⟨ax,ay,az,aA,aF,aH,aE,aM,aN,aR,aq,ar,aD,aP,aQ,aT,aU,aV,aZ,bg,bk,bt,bL,fun _=>rfl,bN,dH,dD,dJ,dO,dN,dU,dM,dF,dP,dX,dK,dQ,dE,dI,dY,dS,dT,dR,dV,dG,ef,hI⟩
  ·obtain rfl:=bK ‹_›
   refine aI eI ?_
   exact ⟨ax,ay,az,aA,aF,aH,aE,aM,aN,aR,aq,ar,aD,aP,aQ,aT,aU,aV,aZ,bg,bk,bt,bL,bK,fun _=>rfl,dH,dD,dJ,dO,dN,dU,dM,dF,dP,dX,dK,dQ,dE,dI,dY,dS,dT,dR,dV,dG,ef,hI⟩
  ·obtain rfl:=bN ‹_›
   refine aX hI 0 fY rfl rfl ?_
   exact ⟨ax,ay,az,aA,aF,aH,aE,aM,aN,aR,aq,ar,aD,aP,aQ,aT,aU,aV,aZ,bg,bk,bt,bL,bK,bN,fun _=>rfl,dD,dJ,dO,dN,dU,dM,dF,dP,dX,dK,dQ,dE,dI,dY,dS,dT,dR,dV,dG,ef,hI⟩
  ·obtain rfl:=dH ‹_›
   refine eT dL ?_
   exact ⟨ax,ay,az,aA,aF,aH,aE,aM,aN,aR,aq,ar,aD,aP,aQ,aT,aU,aV,aZ,bg,bk,bt,bL,bK,bN,dH,fun _=>rfl,dJ,dO,dN,dU,dM,dF,dP,dX,dK,dQ,dE,dI,dY,dS,dT,dR,dV,dG,ef,hI⟩
  ·obtain rfl:=bt ‹_›
   obtain rfl:=dD ‹_›
   refine HS (a:=p * 7+3) (b:=ys.length) (by omega) rfl h0 ?_; rw [<- hd2]
   exact ⟨ax,ay,az,aA,aF,aH,aE,aM,aN,aR,aq,ar,aD,aP,aQ,aT,aU,aV,aZ,bg,bk,bt,bL,bK,bN,dH,dD,fun _=>rfl,dO,dN,dU,dM,dF,dP,dX,dK,dQ,dE,dI,dY,dS,dT,dR,dV,dG,ef,hI⟩
  ·obtain rfl:=aZ ‹_›
   obtain rfl:=dJ ‹_›
   refine be dL hi2 ?_
   exact ⟨ax,ay,az,aA,aF,aH,aE,aM,aN,aR,aq,ar,aD,aP,aQ,aT,aU,aV,aZ,bg,bk,bt,bL,bK,bN,dH,dD,dJ,fun _=>rfl,dN,dU,dM,dF,dP,dX,dK,dQ,dE,dI,dY,dS,dT,dR,dV,dG,ef,hI⟩
  ·obtain rfl:=dO ‹_›
   refine dc ya ((hI.cellS hS).trans hv2) ?_
   exact ⟨ax,ay,az,aA,aF,aH,aE,aM,aN,aR,aq,ar,aD,aP,aQ,aT,aU,aV,aZ,bg,bk,bt,bL,bK,bN,dH,dD,dJ,dO,fun _=>rfl,dU,dM,dF,dP,dX,dK,dQ,dE,dI,dY,dS,dT,dR,dV,dG,ef,hI⟩
  ·obtain rfl:=dN ‹_›
   refine mQ fq mX (IntWalk.i64_in _ (by omega)) ?_
   exact ⟨ax,ay,az,aA,aF,aH,aE,aM,aN,aR,aq,ar,aD,aP,aQ,aT,aU,aV,aZ,bg,bk,bt,bL,bK,bN,dH,dD,dJ,dO,dN,fun _=>rfl,dM,dF,dP,dX,dK,dQ,dE,dI,dY,dS,dT,dR,dV,dG,ef,hI⟩
  ·obtain rfl:=dU ‹_›
   refine yp (by omega) ?_
   exact ⟨ax,ay,az,aA,aF,aH,aE,aM,aN,aR,aq,ar,aD,aP,aQ,aT,aU,aV,aZ,bg,bk,bt,bL,bK,bN,dH,dD,dJ,dO,dN,dU,fun _=>rfl,dF,dP,dX,dK,dQ,dE,dI,dY,dS,dT,dR,dV,dG,ef,hI⟩
  ·obtain rfl:=aQ ‹_›
   obtain rfl:=dM ‹_›
   refine bT (by omega) ?_
   exact ⟨ax,ay,az,aA,aF,aH,aE,aM,aN,aR,aq,ar,aD,aP,aQ,aT,aU,aV,aZ,bg,bk,bt,bL,bK,bN,dH,dD,dJ,dO,dN,dU,dM,fun _=>rfl,dP,dX,dK,dQ,dE,dI,dY,dS,dT,dR,dV,dG,ef,hI⟩
  ·exact ⟨ax,ay,az,aA,aF,aH,aE,aM,aN,aR,aq,ar,aD,aP,aQ,aT,aU,aV,aZ,bg,bk,bt,bL,bK,bN,dH,dD,dJ,dO,dN,dU,dM,dF,fun _=>rfl,dX,dK,dQ,dE,dI,dY,dS,dT,dR,dV,dG,ef,hI⟩
  ·obtain rfl:=dP ‹_›
   refine yp (by omega) ?_
   exact ⟨ax,ay,az,aA,aF,aH,aE,aM,aN,aR,aq,ar,aD,aP,aQ,aT,aU,aV,aZ,bg,bk,bt,bL,bK,bN,dH,dD,dJ,dO,dN,dU,dM,dF,dP,fun _=>rfl,dK,dQ,dE,dI,dY,dS,dT,dR,dV,dG,ef,hI⟩
  ·obtain rfl:=dF ‹_›
   obtain rfl:=dX ‹_›
   refine bT (by omega) ?_
   exact ⟨ax,ay,az,aA,aF,aH,aE,aM,aN,aR,aq,ar,aD,aP,aQ,aT,aU,aV,aZ,bg,bk,bt,bL,bK,bN,dH,dD,dJ,dO,dN,dU,dM,dF,dP,dX,fun _=>rfl,dQ,dE,dI,dY,dS,dT,dR,dV,dG,ef,hI⟩
  ·exact ⟨ax,ay,az,aA,aF,aH,aE,aM,aN,aR,aq,ar,aD,aP,aQ,aT,aU,aV,aZ,bg,bk,bt,bL,bK,bN,dH,dD,dJ,dO,dN,dU,dM,dF,dP,dX,dK,fun _=>rfl,dE,dI,dY,dS,dT,dR,dV,dG,ef,hI⟩
  ·exact ⟨ax,ay,az,aA,aF,aH,aE,aM,aN,aR,aq,ar,aD,aP,aQ,aT,aU,aV,aZ,bg,bk,bt,bL,bK,bN,dH,dD,dJ,dO,dN,dU,dM,dF,dP,dX,dK,dQ,fun _=>rfl,dI,dY,dS,dT,dR,dV,dG,ef,hI⟩
  ·obtain rfl:=dE ‹_›
   refine cE ?_
   exact ⟨ax,ay,az,aA,aF,aH,aE,aM,aN,aR,aq,ar,aD,aP,aQ,aT,aU,aV,aZ,bg,bk,bt,bL,bK,bN,dH,dD,dJ,dO,dN,dU,dM,dF,dP,dX,dK,dQ,dE,fun _=>rfl,dY,dS,dT,dR,dV,dG,ef,hI⟩
  ·obtain rfl:=dI ‹_›
   refine aI eI ?_
   exact ⟨ax,ay,az,aA,aF,aH,aE,aM,aN,aR,aq,ar,aD,aP,aQ,aT,aU,aV,aZ,bg,bk,bt,bL,bK,bN,dH,dD,dJ,dO,dN,dU,dM,dF,dP,dX,dK,dQ,dE,dI,fun _=>rfl,dS,dT,dR,dV,dG,ef,hI⟩
  ·obtain rfl:=dY ‹_›
   refine aX hI 0 fY rfl rfl ?_
   exact ⟨ax,ay,az,aA,aF,aH,aE,aM,aN,aR,aq,ar,aD,aP,aQ,aT,aU,aV,aZ,bg,bk,bt,bL,bK,bN,dH,dD,dJ,dO,dN,dU,dM,dF,dP,dX,dK,dQ,dE,dI,dY,fun _=>rfl,dT,dR,dV,dG,ef,hI⟩
  ·obtain rfl:=dS ‹_›
   refine eT dL ?_
   exact ⟨ax,ay,az,aA,aF,aH,aE,aM,aN,aR,aq,ar,aD,aP,aQ,aT,aU,aV,aZ,bg,bk,bt,bL,bK,bN,dH,dD,dJ,dO,dN,dU,dM,dF,dP,dX,dK,dQ,dE,dI,dY,dS,fun _=>rfl,dR,dV,dG,ef,hI⟩
  ·obtain rfl:=dQ ‹_›
   obtain rfl:=dT ‹_›
   refine H1 (a:=p) (b:=ys.length) rfl rfl h0 (by omega) ?_; rw [<- hdq]
   exact ⟨ax,ay,az,aA,aF,aH,aE,aM,aN,aR,aq,ar,aD,aP,aQ,aT,aU,aV,aZ,bg,bk,bt,bL,bK,bN,dH,dD,dJ,dO,dN,dU,dM,dF,dP,dX,dK,dQ,dE,dI,dY,dS,dT,fun _=>rfl,dV,dG,ef,hI⟩
  ·obtain rfl:=dR ‹_›
   refine yp (by omega) ?_
   exact ⟨ax,ay,az,aA,aF,aH,aE,aM,aN,aR,aq,ar,aD,aP,aQ,aT,aU,aV,aZ,bg,bk,bt,bL,bK,bN,dH,dD,dJ,dO,dN,dU,dM,dF,dP,dX,dK,dQ,dE,dI,dY,dS,dT,dR,fun _=>rfl,dG,ef,hI⟩
  ·obtain rfl:=dK ‹_›
   obtain rfl:=dV ‹_›
   refine bT (by omega) ?_
   exact ⟨ax,ay,az,aA,aF,aH,aE,aM,aN,aR,aq,ar,aD,aP,aQ,aT,aU,aV,aZ,bg,bk,bt,bL,bK,bN,dH,dD,dJ,dO,dN,dU,dM,dF,dP,dX,dK,dQ,dE,dI,dY,dS,dT,dR,dV,fun _=>rfl,ef,hI⟩
  ·obtain rfl:=dG ‹_›
   exact ⟨ax,ay,az,aA,aF,aH,aE,aM,aN,aR,aq,ar,aD,aP,aQ,aT,aU,aV,aZ,bg,bk,bt,bL,bK,bN,dH,dD,dJ,dO,dN,dU,dM,dF,dP,dX,dK,dQ,dE,dI,dY,dS,dT,dR,dV,dG,fun _=>rfl,hI⟩
  obtain rfl:=ef ‹_›
  obtain rfl:=dG ‹_›
  obtain rfl:=dV ‹_›
  obtain rfl:=dR ‹_›
  obtain rfl:=dT ‹_›
  obtain rfl:=dS ‹_›
  obtain rfl:=dY ‹_›
  obtain rfl:=dI ‹_›
  obtain rfl:=dE ‹_›
  obtain rfl:=dQ ‹_›
  obtain rfl:=dK ‹_›
  obtain rfl:=dX ‹_›
  obtain rfl:=dP ‹_›
  obtain rfl:=dF ‹_›
  obtain rfl:=dM ‹_›
  obtain rfl:=dU ‹_›
  obtain rfl:=dN ‹_›
  obtain rfl:=dO ‹_›
  obtain rfl:=dJ ‹_›
  obtain rfl:=dD ‹_›
  obtain rfl:=dH ‹_›
  obtain rfl:=bN ‹_›
  obtain rfl:=bK ‹_›
  obtain rfl:=bL ‹_›
  obtain rfl:=bt ‹_›
  obtain rfl:=bk ‹_›
  obtain rfl:=bg ‹_›
  obtain rfl:=aZ ‹_›
  obtain rfl:=aV ‹_›
  obtain rfl:=aU ‹_›
  obtain rfl:=aT ‹_›
  obtain rfl:=aQ ‹_›
  obtain rfl:=aP ‹_›
  obtain rfl:=aD ‹_›
  obtain rfl:=ar ‹_›
  obtain rfl:=aq ‹_›
  obtain rfl:=aR ‹_›
  obtain rfl:=aN ‹_›
  obtain rfl:=aM ‹_›
  obtain rfl:=aE ‹_›
  obtain rfl:=aH ‹_›
  obtain rfl:=aF ‹_›
  obtain rfl:=aA ‹_›
  obtain rfl:=az ‹_›
  obtain rfl:=ay ‹_›
  obtain rfl:=ax ‹_›
  clear ax ay az aA aF aH aE aM aN aR aq ar aD aP aQ aT aU aV aZ bg bk bt bL bK bN dH dD dJ dO dN dU dM dF dP dX dK dQ dE dI dY dS dT dR dV dG ef
  obtain ⟨x,hx⟩:∃ x:Nat,((((((y1:Nat):Int) * 131)+(((y2:Nat):Int) * 1117))+((p:Int) * 29))+(((q:Nat):Int) * 53))=(x:Int):=⟨(((((((y1:Nat):Int) * 131)+(((y2:Nat):Int) * 1117))+((p:Int) * 29))+(((q:Nat):Int) * 53))).toNat,by omega⟩
  have hx2:x<=10000000000000000:=by omega
  rw [hx]
  refine H1 (a:=x) (b:=64) rfl rfl (by omega) (by omega) ?_
  refine Nl (a:=x) (b:=x / 64) rfl rfl (by omega) (by omega) ?_
  refine HA hn ?_
  exact ⟨_,_,_,rfl,hI,Ext.refl _ _ _,rfl,rfl,_,Nat.mod_lt _ hn,rfl⟩
theorem iF {ys:List Nat} {ns:List Int} {S:al} {sl v:Value} {br p:Nat} (h:RdSl S 1 jd sl ys) (hv:RdSl S 1 gt v ns) (h0:0<ns.length) (hp:p<=1000000000000) :
  Tri Tryz.prog Av [rdP br,v] [rdI br sl p] S fun r I' S'=>S'=S/\I'=[rdI br sl (p+1)]/\∃ n∈ns,r=.int .i64 n:=by
 intro w hI
 refine rM ?_
 unfold mN
 refine bp hv cX ?_
 refine Run.call (A:=[]) ch ci hI (cW h hp h0) fun v' I' S' w'=>?_
 rintro ⟨rfl,rfl,k,hk,rfl⟩ _ hI
 obtain ⟨b,o,cap,c,E,fz,rfl,hS,hR⟩:=hv.at_ hk
 refine be cX hk ?_
 refine dc aY ((hI.cellS hS).trans (bh hR 0 _ rfl)) ?_
 exact ⟨_,_,_,rfl,hI,Ext.refl _ _ _,rfl,rfl,_,List.getElem_mem hk,rfl⟩
theorem xe {ys:List Nat} {ns:List ByteArray} {S:al} {sl v:Value} {br p:Nat} (h:RdSl S 1 jd sl ys) (hv:RdSl S 1 j8 v ns) (h0:0<ns.length) (hp:p<=1000000000000) :
  Tri Tryz.prog Dq [rdP br,v] [rdI br sl p] S fun r I' S'=>S'=S/\I'=[rdI br sl (p+1)]/\∃ n∈ns,r=.string n:=by
 intro w hI
 refine tG ?_
 unfold oj
 refine bp hv ce ?_
 refine Run.call (A:=[]) ch ci hI (cW h hp h0) fun v' I' S' w'=>?_
 rintro ⟨rfl,rfl,k,hk,rfl⟩ _ hI
 obtain ⟨b,o,cap,c,E,fz,rfl,hS,hR⟩:=hv.at_ hk
 refine be ce hk ?_
 refine dc bn ((hI.cellS hS).trans (bh hR 0 _ rfl)) ?_
 exact ⟨_,_,_,rfl,hI,Ext.refl _ _ _,rfl,rfl,_,List.getElem_mem hk,rfl⟩
theorem HB {ys:List Nat} {S:al} {v:Value} (h:RdSl S 1 jd v ys) :
  Tri Tryz.prog FE [v] [] S fun r I' S'=>S'=S/\∃ br sl ys',r=rdP br/\I'=[rdI br sl 0]/\RdSl S 1 jd sl ys':=by
 intro w hI
 refine wn ?_
 unfold se
 refine ⟨fun t w'=>(∃ ys',RdSl S 1 jd t ys')/\Inv w [] [] S w',?_,?_⟩
 ·refine bp h dL ?_
  refine di ?_
  refine bz (fun hgt=>?_) (fun _=>⟨⟨_,h⟩,hI⟩)
  obtain ⟨a,cap,rfl,hl,hc,hh⟩:=id h
  refine Kb (h:=2000) dL (by omega) ?_
  exact ⟨⟨_,RdSl.to h (by omega)⟩,hI⟩
 intro t0 _ _ _ _ _ w'
 rintro ⟨⟨ys',hr⟩,hI⟩
 obtain ⟨a,cap,rfl,_⟩:=id hr
 refine Run.of (v:=.agg #[.slice a ys'.length cap,.int .i64 0]) (w':=w') ?_ ?_
 ·unfold bD
  rw [Sem.run_bind,run_build w' D2 _ #[.slice a ys'.length cap,.int .i64 0] (by kernel_rfl),Result.andThen_ok]
  rfl
 refine bS hI fun br w' hI=>?_
 exact ⟨_,_,_,rfl,hI,Ext.refl _ _ _,rfl,br,_,ys',rfl,rfl,hr⟩
end
end Go.Proofs.YtfcbhfjomgopbaaGreat
