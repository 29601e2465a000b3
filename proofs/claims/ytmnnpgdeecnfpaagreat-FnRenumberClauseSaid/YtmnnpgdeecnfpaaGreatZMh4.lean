/- Texts read: spec.l1Struct, l1Chain, l2Read, l2Prime, l2Terms, l2Items. (printed by gen_read.py) -/
import Derived.Test.YtmnnpgdeecnfpaaGreatZMh3
import Derived.Test.YtmnnpgdeecnfpaaGreatZMh2
namespace Go.Proofs.YtmnnpgdeecnfpaaGreat
open Go Go.RowKit
theorem EL {s:Bs} {i e:Nat} {t:T} (hn:DV s i=some (t,e)):i<e/\e<=s.length:=by
 unfold DV at hn
 obtain ⟨fr,hfr⟩:∃ fr,fr=if sgn s i 45=true then i+1 else i:=⟨_,rfl⟩
 simp only [<- hfr] at hn
 have hle:=wU s 4 fr
 have hfi:i<=fr/\fr<=i+1:=by rw [hfr]; split <;> omega
 split at hn
 ·cases hn
 rename_i hc
 simp only [not_or] at hc
 simp only [Option.some.injEq,Prod.mk.injEq] at hn
 obtain ⟨_,rfl⟩:=hn
 have h2:fr<mf s 4 fr:=by
  rcases Nat.lt_or_ge fr (mf s 4 fr) with h|h
  ·exact h
  ·refine absurd ?_ hc.1
   rw [cut,List.drop_eq_nil_of_le]
   rw [List.length_take]
   omega
 have:=tR (py s 4 fr (mf s 4 fr - 1) (by omega) (by omega))
 omega
theorem fq:∀ f:Nat,(∀ s i d l t n,gy f s i d l=some (t,n)->i<n/\n<=s.length)/\(∀ s i d l t0 t n,yD f s i d l t0=some (t,n)->i<=s.length->i<=n/\n<=s.length)/\
  (∀ s i d t n,mN f s i d=some (t,n)->i<n/\n<=s.length)/\(∀ s i d e o acc ts n,fM f s i d e o acc=some (ts,n)->i<n/\n<s.length)
 | 0=>⟨fun s i d l t n h=>by simp [gy] at h,fun s i d l t0 t n h=>by simp [yD] at h,fun s i d t n h=>by simp [mN] at h,fun s i d e o acc ts n h=>by simp [fM] at h⟩
 | f+1=>by
  obtain ⟨h1,h2,h3,h4⟩:=fq f
  refine ⟨fun s i d l t n h=>?_,fun s i d l t0 t n h hi=>?_,fun s i d t n h=>?_,fun s i d e o acc ts n h=>?_⟩
  ·cases l with
   | zero=>rw [gy] at h; exact h3 _ _ _ _ _ h
   | succ l=>
    rw [gy] at h
    split at h
    ·cases h
    ·rename_i t' n' hr
     have a:=h1 _ _ _ _ _ _ hr
     have b:=h2 _ _ _ _ _ _ _ h a.2
     omega
  ·rw [yD] at h
   split at h
   ·simp only [Option.some.injEq,Prod.mk.injEq] at h
    omega
   ·rename_i name after ho
    have a:=D0 ho
    split at h
    ·split at h
     ·cases h
     ·rename_i r e hr
      have b:=h1 _ _ _ _ _ _ hr
      split at h
      ·simp only [Option.some.injEq,Prod.mk.injEq] at h
       omega
      ·have c:=h2 _ _ _ _ _ _ _ h b.2
       omega
    ·simp only [Option.some.injEq,Prod.mk.injEq] at h
     omega
  ·rw [mN] at h
   split at h
   ·cases h
   rename_i h0
   have h0:i<s.length:=by omega
   split at h
   ·split at h
    ·cases h
    ·rename_i t' n' hr
     have a:=h1 _ _ _ _ _ _ hr
     split at h
     ·rename_i hs
      have:=fG hs
      simp only [Option.some.injEq,Prod.mk.injEq] at h
      omega
     ·cases h
   ·split at h
    ·split at h
     ·cases h
     ·rename_i ts n' hr
      have a:=h4 _ _ _ _ _ _ _ _ hr
      split at h
      ·simp only [Option.some.injEq,Prod.mk.injEq] at h
       omega
      ·split at h
       ·cases h
       ·rename_i t' e hr2
        have b:=h1 _ _ _ _ _ _ hr2
        split at h
        ·rename_i hs
         have:=fG hs
         simp only [Option.some.injEq,Prod.mk.injEq] at h
         omega
        ·cases h
    ·split at h
     ·simp only [Option.some.injEq,Prod.mk.injEq] at h
      omega
     ·split at h
      ·exact EL h
      ·split at h
       ·cases h
       ·rename_i name n' hn
        have a:=n8 h0 hn
        split at h
        ·simp only [Option.some.injEq,Prod.mk.injEq] at h
         omega
        ·split at h
         ·cases h
         ·rename_i ts e hr
          have b:=h4 _ _ _ _ _ _ _ _ hr
          simp only [Option.some.injEq,Prod.mk.injEq] at h
          omega
  ·rw [fM] at h
   split at h
   ·cases h
   ·rename_i t' n' hr
    have a:=h1 _ _ _ _ _ _ hr
    split at h
    ·rename_i hs
     have hlt:n'<s.length:=hs.elim fG fG
     simp only [Option.some.injEq,Prod.mk.injEq] at h
     omega
    ·split at h
     ·have b:=h4 _ _ _ _ _ _ _ _ h
      omega
     ·cases h
abbrev F2 (t:T):Value->List Item->ax->Prop:=fun v I' S'=>I'=[]/\∃ cs,v=.agg cs.toArray/\RdT S' cs t
abbrev DB (t:T) (n:Nat):Value->List Item->ax->Prop:=fun v I' S'=>I'=[]/\∃ cs,v=.tuple #[.agg cs.toArray,.int .i64 (n:Int)]/\RdT S' cs t
abbrev EX (ts:List T) (n:Nat):Value->List Item->ax->Prop:=fun v I' S'=>I'=[]/\∃ u,v=.tuple #[u,.int .i64 (n:Int)]/\RdSl S' 4 (RdT S') u ts
theorem j7 (S:ax):RdSl S 4 (RdT S) (.slice none 0 0) []:=⟨none,0,rfl,Nat.le_refl _,Nat.zero_le _,.inl rfl⟩
theorem xX {S:ax} {b:Nat} {E:TypeId} {a c:T} {k1 n1 k2 n2:Int} {s1 s2:ByteArray} {v1 v2:Value} (hS:S b=some (.cells #[.int .i64 k1,.int .i64 n1,.string s1,v1,.int .i64 k2,.int .i64 n2,.string s2,v2] E))
  (h1:RdT S [.int .i64 k1,.int .i64 n1,.string s1,v1] a) (h2:RdT S [.int .i64 k2,.int .i64 n2,.string s2,v2] c):RdSl S 4 (RdT S) (.slice (some ⟨b,0,none⟩) 2 2) [a,c]:=by
 refine ⟨_,2,rfl,Nat.le_refl _,by simp [maxLen],.inr ⟨b,0,_,E,(0,0),rfl,hS,fun i hi=>?_⟩⟩
 match i,hi with
 | 0,_=>exact h1
 | 1,_=>exact h2
section
variable {w w0:World} {X:List Nat} {L:List Item} {S:ax} {K:Value->World->Prop}
attribute [local irreducible] Run CondV ah ba
theorem dZ {P:Program} {T:TypeId} {cx cy:Bool} {x y:Int} {a b:Nat} (hx:x=a) (hy:y=b) (hr:a+b<=1000000000000000) (hk:K (.int .i64 ((a+b:Nat):Int)) w):Run P (au .add T cx cy (.int .i64 x) (.int .i64 y)) w K:=by
 subst hx hy
 refine ct (by omega) ?_
 rw [<- Int.natCast_add]
 exact hk
theorem uI {P:Program} {T:TypeId} {cx cy:Bool} {x y:Int} {a b:Nat} (hx:x=a) (hy:y=b) (hle:b<=a) (hr:a<=1000000000000000) (hk:K (.int .i64 ((a - b:Nat):Int)) w):Run P (au .sub T cx cy (.int .i64 x) (.int .i64 y)) w K:=by
 subst hx hy
 refine pF (by omega) ?_
 rw [<- Int.ofNat_sub hle]
 exact hk
theorem mH {s:ByteArray} {v:Value} (hv:∃ p n m,v=.slice p n m) (hk:K (.agg #[.int .i64 3,.int .i64 0,.string s,v]) w):Run Tryz.prog (cg ac [(0,.int .i64 3),(2,.string s),(3,v)]) w K:=by
 obtain ⟨p,n,m,rfl⟩:=hv
 refine Run.of (v:=.agg #[.int .i64 3,.int .i64 0,.string s,.slice p n m]) (w':=w) ?_ hk
 unfold cg
 rw [Sem.run_bind,run_build w ac _ #[.int .i64 3,.int .i64 0,.string s,.slice p n m] (by kernel_rfl),Result.andThen_ok]
 rfl
theorem no (s:ByteArray) {ks:List T} {u:Value} (h:RdSl S 4 (RdT S) u ks) (hk:ks.length<=1000000):Tri Tryz.prog pq [.string s,u] [] S fun v I' S'=>S'=S/\∃ kv css,v=.agg #[.int .i64 3,.int .i64 0,.string s,kv]/\I'=[be kv ac 4 css]/\Rows 4 (RdT S) css ks:=by
 intro w hI
 refine pT ?_
 unfold my
 refine bm hI bx fun b4 w' hI=>?_
 refine gx hI bt fun v0 w' hI=>?_
 have hI:Inv w [] [.blk b4 (.cells #[.int .i64 0,.int .i64 0,.string ⟨#[]⟩,.slice none 0 0] ac),be v0 ac 4 []] S w':=hI
 refine ng hI 1 (css:=[]) bt (by omega) rfl h (fun _ _=>RdT.length) (fun _ _=>RdT.one) (by simp; omega) (by omega) fun v' w' css2 hR hI=>?_
 have hI:Inv w [] [.blk b4 (.cells #[.int .i64 0,.int .i64 0,.string ⟨#[]⟩,.slice none 0 0] ac),be v' ac 4 css2] S w':=hI
 obtain ⟨a,n,c,rfl⟩:=hI.rowSlice 1 rfl
 refine mH ⟨_,_,_,rfl⟩ ?_
 refine aX hI 0 rfl aj rfl rfl (by simp [Value.oneCell']) fun w' hI=>?_
 refine bA hI 0 aj rfl rfl ?_
 exact ⟨_,_,_,rfl,hI.sub (List.sublist_cons_self _ _),Ext.refl _ _ _,rfl,_,css2,rfl,rfl,hR⟩
theorem dB (s:ByteArray) (hs:s.size<=maxLen) {ks:List T} {u:Value} (h:RdSl S 4 (RdT S) u ks) (hk:ks.length<=1000000):Tri Tryz.prog pq [.string s,u] [] S (F2 (.mk 3 0 s ks)):=by
 intro w hI
 refine (no s h hk w hI).mono ?_
 rintro e w' ⟨v,I',S',rfl,hI,hE,rfl,kv,css,rfl,rfl,hR⟩
 obtain ⟨S1,hE1,hrd,hI⟩:=Inv.lendExt (A:=[]) hI
 have hrs:=RowRd.rows (hR.monoR fun _ _ h=>RdT.mono hE1.1 h) hrd
 exact ⟨_,[],S1,rfl,hI,hE.trans hE1,rfl,[.int .i64 3,.int .i64 0,.string s,kv],rfl,RdT.iff.2 ⟨kv,rfl,by simp [inI,T.kind],by simp [inI,T.n],hs,hrs⟩⟩
theorem Av {ts:List T} {j:Nat} (h:j<ts.length) (t:T):fZ (ts.drop j) t=zK ts[j] (fZ (ts.drop (j+1)) t):=by
 rw [List.drop_eq_getElem_cons h,fZ]
theorem mm {ts:List T} {t:T} {u:Value} {cs:List Value} (h:RdSl S 4 (RdT S) u ts) (ht:RdT S cs t) (hl:ts.length<=1000000):Tri Tryz.prog zE [u,.agg cs.toArray] [] S (F2 (fZ ts t)):=by
 intro w hI
 obtain ⟨kv,rfl,g1,g2,g3,g4⟩:=RdT.iff.1 ht
 obtain ⟨ka,kn,kc,hkv⟩:∃ a n m,kv=.slice a n m:=by
  obtain ⟨a,m,e,_⟩:=g4
  exact ⟨_,_,_,e⟩
 refine ss ?_
 unfold pC
 refine co hI fun b3 w' hI=>?_
 refine bm hI bx fun b4 w' hI=>?_
 refine bb hI 0 aj rfl rfl ?_
 refine bm hI bx fun b5 w' hI=>?_
 refine aX hI 2 rfl aj rfl rfl (by simp [Value.oneCell',Value.cells,hkv]) fun w' hI=>?_
 refine bo h aS ?_
 refine pF (by omega) ?_
 obtain ⟨B3,hB3⟩:∃ B3,B3=Item.blk b3 (.cells #[.int .i64 t.kind,.int .i64 t.n,.string t.name,kv] ac):=⟨_,rfl⟩
 have hI:Inv w [] [B3,.blk b4 (.cells #[.int .i64 0,.int .i64 0,.string ⟨#[]⟩,.slice none 0 0] ac),.blk b5 (.cells #[.int .i64 t.kind,.int .i64 t.n,.string t.name,kv] ac)] S w':=by rw [hB3]; exact hI
 refine ⟨fun i w'=>∃ (j:Nat) (S1:ax) (ds:List Value),j<=ts.length/\i=.int .i64 ((j:Int) - 1)/\Ext w.heap.size [] S S1/\RdT S1 ds (fZ (ts.drop j) t)/\Inv w [] [B3,.blk b4 (.cells #[.int .i64 0,.int .i64 0,.string ⟨#[]⟩,.slice none 0 0] ac),.blk b5 (.cells ds.toArray ac)] S1 w',
  fun i _=>(intOf i+1).toNat,⟨ts.length,S,_,Nat.le_refl _,rfl,Ext.refl _ _ _,by rw [List.drop_length]; exact ht,hI⟩,?_⟩
 intro t6 _ _ t21 t20 t19 t18 t17 t16 t15 _ _ w'
 rintro ⟨j,S1,ds,hj,rfl,hE,hds,hI⟩
 by_cases hj0:j=0
 ·subst hj0
  refine qd (by omega) ?_
  refine bg (fun hb=>by cases hb) (fun _=>?_)
  obtain ⟨kv',rfl,_,_,_,a,m,rfl,_⟩:=RdT.iff.1 hds
  refine bb hI 2 aj rfl rfl ?_
  refine aX hI 1 rfl aj rfl rfl (by simp [Value.oneCell']) fun w' hI=>?_
  refine bA hI 1 aj rfl rfl ?_
  exact ⟨_,_,_,rfl,hI.nil,hE,rfl,_,rfl,hds⟩
 ·refine jT (by omega) ?_
  refine bg (fun _=>?_) (fun hb=>by cases hb)
  obtain ⟨m,rfl⟩:∃ m,j=m+1:=⟨j - 1,by omega⟩
  have hm:m<ts.length:=by omega
  have ej:((m+1:Nat):Int) - 1=(m:Int):=by omega
  rw [ej]
  obtain ⟨b,o,cap,c,E,fz,rfl,hS,hR⟩:=(h.monoT hE.1).at_ hm
  obtain ⟨ka',hca,_,_,_,aa,am,hka',_⟩:=RdT.iff.1 hR
  subst hka'
  obtain ⟨kd,rfl,_,_,_,da,dm,rfl,_⟩:=RdT.iff.1 hds
  obtain ⟨o1,ho1⟩:∃ o1,o1=fZ (ts.drop (m+1)) t:=⟨_,rfl⟩
  rw [<- ho1] at hds hI
  obtain ⟨a1,ha1⟩:∃ a1,a1=ts[m]:=⟨_,rfl⟩
  rw [<- ha1] at hR hca
  skip
  refine ⟨fun D cY cK c4 eI dQ dX iz w_=>(D 0=true->iz=.slice (some ⟨b,o,none⟩) ts.length cap)/\(D 1=true->dX=.int .i64 (m:Int))/\(D 2=true->dQ=.pointer (some ⟨b,o+m * 4,none⟩))/\(D 3=true->eI=.agg #[.int .i64 a1.kind,.int .i64 a1.n,.string a1.name,.slice aa a1.kids.length am])/\(D 4=true->c4=.agg #[.int .i64 o1.kind,.int .i64 o1.n,.string o1.name,.slice da o1.kids.length dm])/\(D 5=true->True)/\(D 6=true->True)/\(D 7=true->True)/\∃ S2 c6,Ext w.heap.size [] S1 S2/\(D 5=true->RdSl S2 4 (RdT S2) cK [a1,o1])/\(D 6=true->cY=.agg c6.toArray/\RdT S2 c6 (zK a1 o1))/\(D 7=true->D 6=true)/\(D 6=true->D 5=true)/\(D 5=true->D 4=true)/\Inv w [] [B3,.blk b4 (.cells #[.int .i64 0,.int .i64 0,.string ⟨#[]⟩,.slice none 0 0] ac),.blk b5 (.cells (match D 7 with|true=>c6.toArray|false=>#[.int .i64 o1.kind,.int .i64 o1.n,.string o1.name,.slice da o1.kids.length dm]) ac)] S2 w_,⟨af,af,af,af,af,af,af,af,⟨S1,[],Ext.refl _ _ _,af,af,af,af,af,hI.draw⟩⟩,⟨?_,?_,?_,?_,?_,?_,?_,?_,trivial⟩,?_⟩
  ·intro D a6  cY cK c4 eI dQ dX iz w_
   rintro ⟨aF,aC,aB,aE,aD,aG,az,aK,⟨S2,c6,hE2,e5,e6,k7,k6,k5,hI⟩⟩
   exact ⟨fun _=>rfl,aC,aB,aE,aD,aG,az,aK,⟨S2,c6,hE2,e5,e6,k7,k6,k5,hI⟩⟩
  ·intro D a6  cY cK c4 eI dQ dX iz w_
   rintro ⟨aF,aC,aB,aE,aD,aG,az,aK,⟨S2,c6,hE2,e5,e6,k7,k6,k5,hI⟩⟩
   exact ⟨aF,fun _=>rfl,aB,aE,aD,aG,az,aK,⟨S2,c6,hE2,e5,e6,k7,k6,k5,hI⟩⟩
  ·intro D a6 dc gl cY cK c4 eI dQ dX iz w_
   rintro ⟨aF,aC,aB,aE,aD,aG,az,aK,⟨S2,c6,hE2,e5,e6,k7,k6,k5,hI⟩⟩
   obtain rfl:=aF dc
   obtain rfl:=aC gl
   refine bv aS hm ?_
   exact ⟨aF,aC,fun _=>rfl,aE,aD,aG,az,aK,⟨S2,c6,hE2,e5,e6,k7,k6,k5,hI⟩⟩
  ·intro D a6 dy cY cK c4 eI dQ dX iz w_
   rintro ⟨aF,aC,aB,aE,aD,aG,az,aK,⟨S2,c6,hE2,e5,e6,k7,k6,k5,hI⟩⟩
   obtain rfl:=aB dy
   refine dM (cs:=[.int .i64 a1.kind,.int .i64 a1.n,.string a1.name,.slice aa a1.kids.length am]) aj rfl (fun j v hj=>by rw [hI.cellS (hE2.1 _ _ hS)]; exact bC hca j v hj) ?_
   exact ⟨aF,aC,aB,fun _=>rfl,aD,aG,az,aK,⟨S2,c6,hE2,e5,e6,k7,k6,k5,hI⟩⟩
  ·intro D a6  cY cK c4 eI dQ dX iz w_
   rintro ⟨aF,aC,aB,aE,aD,aG,az,aK,⟨S2,c6,hE2,e5,e6,k7,k6,k5,hI⟩⟩
   have f5:D 5=false:=Bool.eq_false_iff.2 fun h=>by rw [k5 h] at a6; cases a6
   have f6:D 6=false:=Bool.eq_false_iff.2 fun h=>by rw [k6 h] at f5; cases f5
   have f7:D 7=false:=Bool.eq_false_iff.2 fun h=>by rw [k7 h] at f6; cases f6
   have hI0:=hI
   rw [f7] at hI
   refine bb hI 2 aj rfl rfl ?_
   have hI:=hI0
   have k5:=fun (_:av D 4 5=true)=>(rfl:av D 4 4=true)
   exact ⟨aF,aC,aB,aE,fun _=>rfl,aG,az,aK,⟨S2,c6,hE2,e5,e6,k7,k6,k5,hI⟩⟩
  ·intro D a6 ef ev cY cK c4 eI dQ dX iz w_
   rintro ⟨aF,aC,aB,aE,aD,aG,az,aK,⟨S2,c6,hE2,e5,e6,k7,k6,k5,hI⟩⟩
   obtain rfl:=aE ef
   obtain rfl:=aD ev
   have f6:D 6=false:=Bool.eq_false_iff.2 fun h=>by rw [k6 h] at a6; cases a6
   have f7:D 7=false:=Bool.eq_false_iff.2 fun h=>by rw [k7 h] at f6; cases f6
   rw [f7] at hI
   refine k0 (v:=fun b=>.slice (some ⟨b,0,none⟩) 2 2) (o:=.cells #[.int .i64 a1.kind,.int .i64 a1.n,.string a1.name,.slice aa a1.kids.length am,.int .i64 o1.kind,.int .i64 o1.n,.string o1.name,.slice da o1.kids.length dm] ac) hI (by kernel_rfl) fun b20 w_ hI=>?_
   obtain ⟨S2,hI,hE3,hS3⟩:=Inv.pub1 (A:=[_,_,_]) hI
   have hE2:=hE2.trans hE3
   have hR':RdT S2 [.int .i64 a1.kind,.int .i64 a1.n,.string a1.name,.slice aa a1.kids.length am] a1:=by
    have:=RdT.mono hE2.1 hR
    rwa [hca] at this
   have e5:=fun (_:av D 5 5=true)=>xX hS3 hR' (RdT.mono hE2.1 hds)
   have e6:=fun (h:D 6=true)=>(absurd h (by rw [f6]; decide):cY=.agg c6.toArray/\RdT S2 c6 (zK a1 o1))
   have k6:=fun (_:av D 5 6=true)=>(rfl:av D 5 5=true)
   have k5:=fun (_:av D 5 5=true)=>ev
   have hI:Inv w [] [B3,.blk b4 (.cells #[.int .i64 0,.int .i64 0,.string ⟨#[]⟩,.slice none 0 0] ac),.blk b5 (.cells (match D 7 with|true=>c6.toArray|false=>#[.int .i64 o1.kind,.int .i64 o1.n,.string o1.name,.slice da o1.kids.length dm]) ac)] S2 w_:=by
    rw [f7]
    exact hI
   exact ⟨aF,aC,aB,aE,aD,fun _=>by first|assumption|trivial,az,aK,⟨S2,c6,hE2,e5,e6,k7,k6,k5,hI⟩⟩
  ·intro D a6 eq cY cK c4 eI dQ dX iz w_
   rintro ⟨aF,aC,aB,aE,aD,aG,az,aK,⟨S2,c6,hE2,e5,e6,k7,k6,k5,hI⟩⟩
   have C3:=aG eq
   have f7:D 7=false:=Bool.eq_false_iff.2 fun h=>by rw [k7 h] at a6; cases a6
   rw [f7] at hI
   refine Run.call0E c9 db hI (dB ⟨#[46]⟩ (by decide +kernel) (e5 eq) (by simp)) fun v' I' S2 w_=>?_
   rintro ⟨rfl,c6,rfl,hc6⟩ hE3 hI
   have hE2:=hE2.trans hE3
   have e5:=fun (h:D 5=true)=>(e5 h).monoT hE3.1
   have e6:av D 6 6=true->Value.agg c6.toArray=Value.agg c6.toArray/\RdT S2 c6 (zK a1 o1):=fun _=>⟨rfl,hc6⟩
   have k7:=fun (_:av D 6 7=true)=>(rfl:av D 6 6=true)
   have k6:=fun (_:av D 6 6=true)=>eq
   have hI:Inv w [] [B3,.blk b4 (.cells #[.int .i64 0,.int .i64 0,.string ⟨#[]⟩,.slice none 0 0] ac),.blk b5 (.cells (match D 7 with|true=>c6.toArray|false=>#[.int .i64 o1.kind,.int .i64 o1.n,.string o1.name,.slice da o1.kids.length dm]) ac)] S2 w_:=by
    rw [f7]
    exact hI
   exact ⟨aF,aC,aB,aE,aD,aG,fun _=>by first|assumption|trivial,aK,⟨S2,c6,hE2,e5,e6,k7,k6,k5,hI⟩⟩
  ·intro D a6 cw eO CO Cq xx CT CN CC Cw cY cK c4 eI dQ dX iz w_
   rintro ⟨aF,aC,aB,aE,aD,aG,az,aK,⟨S2,c6,hE2,e5,e6,k7,k6,k5,hI⟩⟩
   have C7:=az cw
   obtain ⟨q6,hc6⟩:=e6 cw
   subst q6
   rw [a6] at hI
   have hone:=hc6.one
   have hlen:=hc6.length
   refine aX hI 2 rfl aj (by simpa using hlen) rfl (by simpa using hone) fun w_ hI=>?_
   have k7:=fun (_:av D 7 7=true)=>cw
   exact ⟨aF,aC,aB,aE,aD,aG,az,fun _=>trivial,⟨S2,c6,hE2,e5,e6,k7,k6,k5,hI⟩⟩
  intro D ii gM gT hO iR im iT iS cY cK c4 eI dQ dX iz w_
  rintro ⟨aF,aC,aB,aE,aD,aG,az,aK,⟨S2,c6,hE2,e5,e6,k7,k6,k5,hI⟩⟩
  have C7:=az gM
  have C3:=aG gT
  obtain rfl:=aD hO
  obtain rfl:=aE iR
  obtain rfl:=aB im
  obtain rfl:=aC iT
  obtain rfl:=aF iS
  clear aF aC aB aE aD aG az aK
  rw [ii] at hI
  obtain ⟨_,hc6⟩:=e6 gM
  refine pF (by omega) ?_
  refine ⟨⟨m,S2,c6,by omega,rfl,hE.trans hE2,?_,hI⟩,by simp [intOf]⟩
  rw [Av hm,<- ha1,<- ho1]
  exact hc6
end
def lb (f:Nat):Prop:=∀ (s:Bs) (i d l:Nat) (t:T) (n:Nat) (S:ax),gy f s i d l=some (t,n)->s.length<=100000->i<=s.length->d<=100->l<=3->
 Tri Tryz.prog Aj [.string (st s),.int .i64 (i:Int),.int .i64 (d:Int),.int .i64 (l:Int)] [] S (DB t n)
def xA (f:Nat):Prop:=∀ (s:Bs) (i d:Nat) (t:T) (n:Nat) (S:ax),mN f s i d=some (t,n)->s.length<=100000->i<=s.length->d<=100->
 Tri Tryz.prog zA [.string (st s),.int .i64 (i:Int),.int .i64 (d:Int)] [] S (DB t n)
def nv (f:Nat):Prop:=∀ (s:Bs) (i d e o:Nat) (ts:List T) (n:Nat) (S:ax),fM f s i d e o []=some (ts,n)->s.length<=100000->i<=s.length->d<=100->
 Tri Tryz.prog yq [.string (st s),.int .i64 (i:Int),.int .i64 (d:Int),.int .u8 (e:Int),.int .u8 (o:Int)] [] S (EX ts n)
theorem we:∀ (f:Nat) (s:Bs) (i d e o:Nat) (acc ts:List T) (n:Nat),fM f s i d e o acc=some (ts,n)->ts.length+i<=acc.length+n
 | 0,s,i,d,e,o,acc,ts,n,h=>by simp [fM] at h
 | f+1,s,i,d,e,o,acc,ts,n,h=>by
  rw [fM] at h
  split at h
  ·cases h
  ·rename_i t' n' hr
   have a:=(fq f).1 _ _ _ _ _ _ hr
   split at h
   ·simp only [Option.some.injEq,Prod.mk.injEq] at h
    obtain ⟨rfl,rfl⟩:=h
    rw [List.length_append]
    simp only [List.length_cons,List.length_nil]
    omega
   ·split at h
    ·have b:=we f _ _ _ _ _ _ _ _ h
     rw [List.length_append] at b
     simp only [List.length_cons,List.length_nil] at b
     omega
    ·cases h
section
attribute [local irreducible] Run CondV ah ba
theorem Dq {f:Nat} (ih:∀ g,g<f->lb g):nv f:=by
 intro s i d e o ts n S h hs hi hd w hI
 refine rV ?_
 unfold ox
 refine gx hI bt fun v0 w' hI=>?_
 refine ⟨fun a b w'=>∃ (f' i':Nat) (acc:List T) (S1:ax) (css:List (List Value)),f'<=f/\a=.int .i64 (i':Int)/\i<=i'/\i'<=s.length/\acc.length+i<=i'/\fM f' s i' d e o acc=some (ts,n)/\Ext w.heap.size [] S S1/\Rows 4 (RdT S1) css acc/\Inv w [] [be b ac 4 css] S1 w',
  fun a _ _=>s.length+1 - (intOf a).toNat,⟨f,i,[],S,[],Nat.le_refl _,rfl,Nat.le_refl _,hi,by simp,h,Ext.refl _ _ _,Rows.nil _ _,hI⟩,?_⟩
 intro t1 _ _ _ _ _ _ _ _ _ _ _ _ _ _ _ _ _ _ _ _ t12 _ _ _ _ _ _ _ _ _ _ _ _ _ _ _ _ _ _ w'
 rintro ⟨f',i',acc,S1,css,hf',rfl,hi1,hi2,hacc,hT,hE,hR,hI⟩
 have hcl:=hR.hc
 cases f' with
 | zero=>simp [fM] at hT
 | succ g=>
 rw [fM] at hT
 split at hT
 ·cases hT
 rename_i t n' hr
 have hle:=(fq g).1 _ _ _ _ _ _ hr
 refine Run.call0E eP eQ hI (ih g (by omega) s i' d 3 t n' S1 hr hs hi2 hd (by omega)) fun v I' S2 w'=>?_
 rintro ⟨rfl,cs,rfl,hcs⟩ hE2 hI
 have hR2:=hR.monoR fun _ _ h=>RdT.mono hE2.1 h
 obtain ⟨kv,rfl,_,_,_,a,m,rfl,_⟩:=RdT.iff.1 hcs
 refine bj (v:=.agg _) rfl ?_
 refine bj (v:=.int .i64 (n':Int)) rfl ?_
 refine bm hI bx fun b13 w' hI=>?_
 refine aX hI 1 rfl aj rfl rfl (by simp [Value.oneCell']) fun w' hI=>?_
 refine ed (by omega) ?_
 refine bg (fun hb=>by cases hb) (fun _=>?_)
 refine bb hI 1 aj rfl rfl ?_
 refine gc (css:=css) hI 0 _ bt (by omega) (by omega) rfl hcs.length hcs.one (by omega) (by omega) fun v' w' hI=>?_
 have hI:Inv w [] [be v' ac 4 (css++[[.int .i64 t.kind,.int .i64 t.n,.string t.name,.slice a t.kids.length m]])] S2 w':=hI.pick [true,false]
 have hR3:=hR2.snoc hcs hcs.length
 refine ⟨fun b w'=>b=.bool (sgn s n' e || sgn s n' o)/\Inv w [] [be v' ac 4 (css++[[.int .i64 t.kind,.int .i64 t.n,.string t.name,.slice a t.kids.length m]])] S2 w',?_,?_⟩
 ·refine Run.callPure cZ c3 hI (cF s n' e S2) fun w' hI=>?_
  cases he:sgn s n' e
  ·repeat (first|refine ad ?_|refine ag (by decide) ?_|refine ae ?_|refine aq ?_|refine al ?_)
   refine Run.callPure cZ c3 hI (cF s n' o S2) fun w' hI=>?_
   repeat (first|refine ad ?_|refine ag (by decide) ?_|refine ae ?_|refine aq ?_|refine al ?_)
   exact ⟨by simp,hI⟩
  ·repeat (first|refine ad ?_|refine ag (by decide) ?_|refine ae ?_|refine aq ?_|refine al ?_)
   exact ⟨by simp,hI⟩
 intro t39 _ _ _ _ _ _ _ _ _ w'
 rintro ⟨rfl,hI⟩
 refine bg (fun hb=>?_) (fun hb=>?_)
 ·rw [Bool.or_eq_true] at hb
  rw [if_pos hb] at hT
  simp only [Option.some.injEq,Prod.mk.injEq] at hT
  obtain ⟨rfl,rfl⟩:=hT
  obtain ⟨S3,hE3,hrd,hI⟩:=Inv.lendExt (A:=[]) hI
  have hrs:=RowRd.rows (hR3.monoR fun _ _ h=>RdT.mono hE3.1 h) hrd
  exact ⟨_,[],S3,rfl,hI,(hE.trans hE2).trans hE3,rfl,_,rfl,hrs⟩
 ·have hb':¬ (sgn s n' e=true ∨ sgn s n' o=true):=fun h=>by rw [<- Bool.or_eq_true,hb] at h; cases h
  rw [if_neg hb'] at hT
  split at hT
  ·rename_i h44
   refine Run.callPure cZ c3 hI (cF s n' 44 S2) fun w' hI=>?_
   refine dT ?_
   rw [h44]
   refine bg (fun hb=>by cases hb) (fun _=>?_)
   have:=fG h44
   refine dZ (a:=n') (b:=1) rfl rfl (by omega) ?_
   refine ⟨⟨g,n'+1,acc++[t],S2,css++[[.int .i64 t.kind,.int .i64 t.n,.string t.name,.slice a t.kids.length m]],by omega,rfl,by omega,by omega,?_,hT,hE.trans hE2,hR3,hI⟩,?_⟩
   ·rw [List.length_append]; simp only [List.length_cons,List.length_nil]; omega
   ·simp only [intOf,Int.toNat_natCast]; omega
  ·cases hT
theorem yP {g:Nat} (hT:nv g) (hR:lb g) {s:Bs} {i d:Nat} {ts:List T} {n:Nat} {t:T} {e:Nat} (h1:fM g s i d 93 124 []=some (ts,n))
  (h2:(sgn s n 93=true/\t=fZ ts Fk/\e=n+1) ∨ (sgn s n 93=false/\∃ u m,gy g s (n+1) d 3=some (u,m)/\sgn s m 93=true/\t=fZ ts u/\e=m+1))
  (hs:s.length<=100000) (hi:i<=s.length) (hd:d<=100) (S:ax):Tri Tryz.prog ze [.string (st s),.int .i64 (i:Int),.int .i64 (d:Int)] [] S (DB t e):=by
 intro w hI
 have hle:=(fq g).2.2.2 _ _ _ _ _ _ _ _ h1
 have hln:=we _ _ _ _ _ _ _ _ _ h1
 simp only [List.length_nil] at hln
 refine sz ?_
 unfold pa
 refine bm hI bx fun b6 w' hI=>?_
 refine Run.call0E om n9 hI (hT s i d 93 124 ts n S h1 hs hi hd) fun v I' S1 w'=>?_
 rintro ⟨rfl,u,rfl,hu⟩ hE1 hI
 have hI:Inv w [] [.blk b6 (.cells #[.int .i64 0,.int .i64 0,.string ⟨#[]⟩,.slice none 0 0] ac)] S1 w':=hI
 refine bj (v:=u) rfl ?_
 refine bj (v:=.int .i64 (n:Int)) rfl ?_
 refine ed (by omega) ?_
 refine bg (fun hb=>by cases hb) (fun _=>?_)
 refine Run.callPure cZ c3 hI (cF s n 93 S1) fun w' hI=>?_
 rcases h2 with ⟨h3,rfl,rfl⟩|⟨h3,x,m,h4,h5,rfl,rfl⟩
 ·rw [h3]
  refine bg (fun _=>?_) (fun hb=>by cases hb)
  refine Run.call0E c9 db hI (dB ⟨#[91,93]⟩ (by decide +kernel) (j7 S1) (by simp)) fun v I' S2 w'=>?_
  rintro ⟨rfl,cs,rfl,hcs⟩ hE2 hI
  refine Run.call0E pj o6 hI (mm (hu.monoT hE2.1) hcs (by omega)) fun v I' S3 w'=>?_
  rintro ⟨rfl,ds,rfl,hds⟩ hE3 hI
  refine dZ (a:=n) (b:=1) rfl rfl (by omega) ?_
  obtain ⟨kv,rfl,_,_,_,a,k,rfl,_⟩:=RdT.iff.1 hds
  refine aX hI 0 rfl aj rfl rfl (by simp [Value.oneCell']) fun w' hI=>?_
  refine bA hI 0 aj rfl rfl ?_
  exact ⟨_,[],S3,rfl,hI.nil,(hE1.trans hE2).trans hE3,rfl,_,rfl,hds⟩
 ·rw [h3]
  refine bg (fun hb=>by cases hb) (fun _=>?_)
  refine dZ (a:=n) (b:=1) rfl rfl (by omega) ?_
  have hle2:=(fq g).1 _ _ _ _ _ _ h4
  refine Run.call0E eP eQ hI (hR s (n+1) d 3 x m S1 h4 hs (by omega) hd (by omega)) fun v I' S2 w'=>?_
  rintro ⟨rfl,cs,rfl,hcs⟩ hE2 hI
  obtain ⟨kv,rfl,_,_,_,a,k,rfl,_⟩:=RdT.iff.1 hcs
  refine bj (v:=.agg _) rfl ?_
  refine bj (v:=.int .i64 (m:Int)) rfl ?_
  refine bm hI bx fun b10 w' hI=>?_
  refine aX hI 1 rfl aj rfl rfl (by simp [Value.oneCell']) fun w' hI=>?_
  refine ed (by omega) ?_
  refine bg (fun hb=>by cases hb) (fun _=>?_)
  refine Run.callPure cZ c3 hI (cF s m 93 S2) fun w' hI=>?_
  refine dT ?_
  rw [h5]
  refine bg (fun hb=>by cases hb) (fun _=>?_)
  refine bb hI 1 aj rfl rfl ?_
  refine Run.call0E pj o6 hI (mm (hu.monoT hE2.1) hcs (by omega)) fun v I' S3 w'=>?_
  rintro ⟨rfl,ds,rfl,hds⟩ hE3 hI
  refine dZ (a:=m) (b:=1) rfl rfl (by omega) ?_
  obtain ⟨kv,rfl,_,_,_,a,k,rfl,_⟩:=RdT.iff.1 hds
  refine aX hI 0 rfl aj rfl rfl (by simp [Value.oneCell']) fun w' hI=>?_
  refine bA hI 0 aj rfl rfl ?_
  exact ⟨_,[],S3,rfl,hI.nil,(hE1.trans hE2).trans hE3,rfl,_,rfl,hds⟩
theorem xT {n:Bs} (h:n.length<=6):(st n).size<=maxLen:=by rw [j8]; simp only [maxLen]; omega
theorem Ep {f:Nat} (ihR:∀ g,g<f->lb g) (ihT:∀ g,g<f->nv g):xA f:=by
 intro s i d t n S h hs hi hd w hI
 cases f with
 | zero=>simp [mN] at h
 | succ g=>
 have hR:=ihR g (by omega)
 have hT:=ihT g (by omega)
 have hle:=(fq (g+1)).2.2.1 _ _ _ _ _ h
 rw [mN] at h
 split at h
 ·cases h
 rename_i h0
 have hd0:1<=d:=by omega
 have hlt:i<s.length:=by omega
 refine sF ?_
 unfold pD
 refine bm hI bx fun b6 w' hI=>?_
 have hI:Inv w [] [.blk b6 (.cells #[.int .i64 0,.int .i64 0,.string ⟨#[]⟩,.slice none 0 0] ac)] S w':=hI
 refine ⟨fun b w'=>b=.bool false/\Inv w [] [.blk b6 (.cells #[.int .i64 0,.int .i64 0,.string ⟨#[]⟩,.slice none 0 0] ac)] S w',?_,?_⟩
 ·refine ed (by omega) ?_
  repeat (first|refine ad ?_|refine ag (by decide) ?_|refine ae ?_|refine aq ?_|refine al ?_)
  refine eA bf ?_
  refine qd (by omega) ?_
  repeat (first|refine ad ?_|refine ag (by decide) ?_|refine ae ?_|refine aq ?_|refine al ?_)
  exact ⟨rfl,hI⟩
 intro t23 _ _ _ _ _ _ _ w'
 rintro ⟨rfl,hI⟩
 refine bg (fun hb=>by cases hb) (fun _=>?_)
 refine dP bf hlt ?_
 split at h
 ·rename_i h40
  rw [iE hlt,decide_eq_true_eq] at h40
  refine eK (by omega) ?_
  refine bg (fun _=>?_) (fun hb=>by cases hb)
  split at h
  ·cases h
  rename_i u m hr
  split at h
  ·rename_i h41
   simp only [Option.some.injEq,Prod.mk.injEq] at h
   obtain ⟨rfl,rfl⟩:=h
   have hle2:=(fq g).1 _ _ _ _ _ _ hr
   refine dZ (a:=i) (b:=1) rfl rfl (by omega) ?_
   refine Run.call0E eP eQ hI (hR s (i+1) d 3 u m S hr hs (by omega) hd (by omega)) fun v I' S2 w'=>?_
   rintro ⟨rfl,cs,rfl,hcs⟩ hE2 hI
   obtain ⟨kv,rfl,_,_,_,a,k,rfl,_⟩:=RdT.iff.1 hcs
   refine bj (v:=.agg _) rfl ?_
   refine bj (v:=.int .i64 (m:Int)) rfl ?_
   refine bm hI bx fun b8 w' hI=>?_
   refine aX hI 1 rfl aj rfl rfl (by simp [Value.oneCell']) fun w' hI=>?_
   refine ed (by omega) ?_
   refine bg (fun hb=>by cases hb) (fun _=>?_)
   refine Run.callPure cZ c3 hI (cF s m 41 S2) fun w' hI=>?_
   refine dT ?_
   rw [h41]
   refine bg (fun hb=>by cases hb) (fun _=>?_)
   refine bb hI 1 aj rfl rfl ?_
   refine dZ (a:=m) (b:=1) rfl rfl (by omega) ?_
   refine aX hI 0 rfl aj rfl rfl (by simp [Value.oneCell']) fun w' hI=>?_
   refine bA hI 0 aj rfl rfl ?_
   exact ⟨_,[],S2,rfl,hI.nil,hE2,rfl,_,rfl,hcs⟩
  ·cases h
 rename_i h40
 rw [iE hlt,decide_eq_true_eq] at h40
 refine dR (by omega) ?_
 refine bg (fun hb=>by cases hb) (fun _=>?_)
 refine ⟨fun b w'=>b=.bool (sgn s i 91 && !sgn s (i+1) 93)/\Inv w [] [.blk b6 (.cells #[.int .i64 0,.int .i64 0,.string ⟨#[]⟩,.slice none 0 0] ac)] S w',?_,?_⟩
 ·refine dP bf hlt ?_
  by_cases h91:s[i].toNat=91
  ·refine eK (by omega) ?_
   repeat (first|refine ad ?_|refine ag (by decide) ?_|refine ae ?_|refine aq ?_|refine al ?_)
   refine dZ (a:=i) (b:=1) rfl rfl (by omega) ?_
   refine Run.callPure cZ c3 hI (cF s (i+1) 93 S) fun w' hI=>?_
   refine dT ?_
   repeat (first|refine ad ?_|refine ag (by decide) ?_|refine ae ?_|refine aq ?_|refine al ?_)
   exact ⟨by rw [iE hlt,decide_eq_true h91,Bool.true_and],hI⟩
  ·refine dR (by omega) ?_
   repeat (first|refine ad ?_|refine ag (by decide) ?_|refine ae ?_|refine aq ?_|refine al ?_)
   exact ⟨by rw [iE hlt,decide_eq_false h91,Bool.false_and],hI⟩
 intro t65 _ _ _ _ _ _ _ _ _ _ w'
 rintro ⟨rfl,hI⟩
 split at h
 ·rename_i h91
  rw [h91.1,h91.2]
  refine bg (fun _=>?_) (fun hb=>by cases hb)
  split at h
  ·cases h
  rename_i ts m hts
  have h2:(sgn s m 93=true/\t=fZ ts Fk/\n=m+1) ∨ (sgn s m 93=false/\∃ u k,gy g s (m+1) (d - 1) 3=some (u,k)/\sgn s k 93=true/\t=fZ ts u/\n=k+1):=by
   split at h
   ·rename_i h3
    simp only [Option.some.injEq,Prod.mk.injEq] at h
    exact .inl ⟨h3,h.1.symm,h.2.symm⟩
   ·rename_i h3
    split at h
    ·cases h
    rename_i u k hr
    split at h
    ·rename_i h4
     simp only [Option.some.injEq,Prod.mk.injEq] at h
     exact .inr ⟨Bool.eq_false_iff.2 h3,u,k,hr,h4,h.1.symm,h.2.symm⟩
    ·cases h
  refine dZ (a:=i) (b:=1) rfl rfl (by omega) ?_
  refine uI (a:=d) (b:=1) rfl rfl hd0 (by omega) ?_
  refine Run.call0E xK wS hI (yP hT hR hts h2 hs (by omega) (by omega) S) fun v I' S2 w'=>?_
  rintro ⟨rfl,cs,rfl,hcs⟩ hE2 hI
  obtain ⟨kv,rfl,_,_,_,a,k,rfl,_⟩:=RdT.iff.1 hcs
  refine bj (v:=.agg _) rfl ?_
  refine bj (v:=.int .i64 (n:Int)) rfl ?_
  refine aX hI 0 rfl aj rfl rfl (by simp [Value.oneCell']) fun w' hI=>?_
  refine bA hI 0 aj rfl rfl ?_
  exact ⟨_,[],S2,rfl,hI.nil,hE2,rfl,_,rfl,hcs⟩
 rename_i h91
 have e91:(sgn s i 91 && !sgn s (i+1) 93)=false:=by
  cases h5:sgn s i 91
  ·rfl
  ·cases h6:sgn s (i+1) 93
   ·exact absurd ⟨h5,h6⟩ h91
   ·rfl
 rw [e91]
 refine bg (fun hb=>by cases hb) (fun _=>?_)
 refine ⟨fun b w'=>b=.bool (upp s i)/\Inv w [] [.blk b6 (.cells #[.int .i64 0,.int .i64 0,.string ⟨#[]⟩,.slice none 0 0] ac)] S w',?_,?_⟩
 ·refine dP bf hlt ?_
  by_cases h65:65<=s[i].toNat
  ·refine jT (by omega) ?_
   repeat (first|refine ad ?_|refine ag (by decide) ?_|refine ae ?_|refine aq ?_|refine al ?_)
   refine dP bf hlt ?_
   refine fO ?_
   repeat (first|refine ad ?_|refine ag (by decide) ?_|refine ae ?_|refine aq ?_|refine al ?_)
   refine ⟨?_,hI⟩
   rw [upp,j3 hlt,decide_eq_true h65,Bool.true_and]
   congr 1
   rw [decide_eq_decide]
   omega
  ·refine qd (by omega) ?_
   repeat (first|refine ad ?_|refine ag (by decide) ?_|refine ae ?_|refine aq ?_|refine al ?_)
   exact ⟨by rw [upp,j3 hlt,decide_eq_false h65,Bool.false_and],hI⟩
 intro t83 _ _ _ _ _ _ _ _ _ w'
 rintro ⟨rfl,hI⟩
 split at h
 ·rename_i hup
  simp only [Option.some.injEq,Prod.mk.injEq] at h
  obtain ⟨rfl,rfl⟩:=h
  rw [hup]
  rw [upp,j3 hlt,Bool.and_eq_true,decide_eq_true_eq,decide_eq_true_eq] at hup
  refine bg (fun _=>?_) (fun hb=>by cases hb)
  refine dP bf hlt ?_
  refine Di (c:=(s[i].toNat:Int) - 65) (IntWalk.u8_in _ (by omega)) ?_
  refine lE fa lT (IntWalk.i64_in _ (by omega)) ?_
  refine Run.callPure tn uG hI (mv _ S) fun w' hI=>?_
  refine dZ (a:=i) (b:=1) rfl rfl (by omega) ?_
  refine aX hI 0 rfl aj rfl rfl (by simp [Value.oneCell']) fun w' hI=>?_
  refine bA hI 0 aj rfl rfl ?_
  have eg:((s.getD i 0).toNat:Int) - 65=(s[i].toNat:Int) - 65:=by rw [List.getD_eq_getElem?_getD,List.getElem?_eq_getElem hlt]; rfl
  rw [eg]
  exact ⟨_,[],S,rfl,hI.nil,Ext.refl _ _ _,rfl,_,rfl,RdT.nil (by simp [inI]) (by unfold inI; omega) (by decide +kernel) (Nat.zero_le _)⟩
 rename_i hup
 rw [Bool.eq_false_iff.2 hup]
 refine bg (fun hb=>by cases hb) (fun _=>?_)
 refine ⟨fun b w'=>b=.bool (dig s i || (sgn s i 45 && dig s (i+1)))/\Inv w [] [.blk b6 (.cells #[.int .i64 0,.int .i64 0,.string ⟨#[]⟩,.slice none 0 0] ac)] S w',?_,?_⟩
 ·refine Run.callPure gU gV hI (ft s i S) fun w' hI=>?_
  cases hdi:dig s i
  ·repeat (first|refine ad ?_|refine ag (by decide) ?_|refine ae ?_|refine aq ?_|refine al ?_)
   refine dP bf hlt ?_
   by_cases h45:s[i].toNat=45
   ·refine eK (by omega) ?_
    repeat (first|refine ad ?_|refine ag (by decide) ?_|refine ae ?_|refine aq ?_|refine al ?_)
    refine dZ (a:=i) (b:=1) rfl rfl (by omega) ?_
    refine Run.callPure gU gV hI (ft s (i+1) S) fun w' hI=>?_
    repeat (first|refine ad ?_|refine ag (by decide) ?_|refine ae ?_|refine aq ?_|refine al ?_)
    exact ⟨by rw [iE hlt,decide_eq_true h45,Bool.true_and,Bool.false_or],hI⟩
   ·refine dR (by omega) ?_
    repeat (first|refine ad ?_|refine ag (by decide) ?_|refine ae ?_|refine aq ?_|refine al ?_)
    exact ⟨by rw [iE hlt,decide_eq_false h45,Bool.false_and,Bool.false_or],hI⟩
  ·repeat (first|refine ad ?_|refine ag (by decide) ?_|refine ae ?_|refine aq ?_|refine al ?_)
   exact ⟨by rw [Bool.true_or],hI⟩
 intro t106 _ _ _ _ _ _ _ _ _ _ _ _ _ _ w'
 rintro ⟨rfl,hI⟩
 split at h
 ·rename_i hdg
  have:(dig s i || (sgn s i 45 && dig s (i+1)))=true:=by rw [Bool.or_eq_true,Bool.and_eq_true]; exact hdg
  rw [this]
  refine bg (fun _=>?_) (fun hb=>by cases hb)
  obtain ⟨k,hk,rfl,_,_,hnum⟩:=uh h (by omega) S
  refine Run.callPure uV u6 hI hnum fun w' hI=>?_
  refine bj (v:=wF 2 k) rfl ?_
  refine bj (v:=.int .i64 (n:Int)) rfl ?_
  refine bm hI bx fun b10 w' hI=>?_
  refine aX hI 1 rfl aj rfl rfl (by simp [Value.oneCell']) fun w' hI=>?_
  refine ed (by omega) ?_
  refine bg (fun hb=>by cases hb) (fun _=>?_)
  refine bb hI 1 aj rfl rfl ?_
  refine aX hI 0 rfl aj rfl rfl (by simp [Value.oneCell']) fun w' hI=>?_
  refine bA hI 0 aj rfl rfl ?_
  exact ⟨_,[],S,rfl,hI.nil,Ext.refl _ _ _,rfl,_,rfl,RdT.nil (by simp [inI]) hk (by decide +kernel) (Nat.zero_le _)⟩
 rename_i hdg
 have:(dig s i || (sgn s i 45 && dig s (i+1)))=false:=by
  rw [Bool.eq_false_iff,ne_eq,Bool.or_eq_true,Bool.and_eq_true]; exact hdg
 rw [this]
 refine bg (fun hb=>by cases hb) (fun _=>?_)
 refine Run.callPure ro ru hI (ou hlt hs S) fun w' hI=>?_
 cases hnm:oA s i with
 | none=>rw [hnm] at h; cases h
 | some q=>
 obtain ⟨name,m⟩:=q
 rw [hnm] at h
 simp only [] at h
 simp only [BP]
 have hnl:=n8 hlt hnm
 refine bj (v:=.string (st name)) rfl ?_
 refine bj (v:=.int .i64 (m:Int)) rfl ?_
 refine ed (by omega) ?_
 refine bg (fun hb=>by cases hb) (fun _=>?_)
 refine Run.callPure cZ c3 hI (cF s m 40 S) fun w' hI=>?_
 refine dT ?_
 split at h
 ·rename_i h40'
  simp only [Option.some.injEq,Prod.mk.injEq] at h
  obtain ⟨rfl,rfl⟩:=h
  rw [h40']
  refine bg (fun _=>?_) (fun hb=>by cases hb)
  refine Run.call0E c9 db hI (dB (st name) (xT hnl.2.2.1) (j7 S) (by simp)) fun v I' S2 w'=>?_
  rintro ⟨rfl,cs,rfl,hcs⟩ hE2 hI
  obtain ⟨kv,rfl,_,_,_,a,k,rfl,_⟩:=RdT.iff.1 hcs
  refine aX hI 0 rfl aj rfl rfl (by simp [Value.oneCell']) fun w' hI=>?_
  refine bA hI 0 aj rfl rfl ?_
  exact ⟨_,[],S2,rfl,hI.nil,hE2,rfl,_,rfl,hcs⟩
 ·rename_i h40'
  rw [Bool.not_eq_false] at h40'
  rw [h40']
  refine bg (fun hb=>by cases hb) (fun _=>?_)
  split at h
  ·cases h
  rename_i ts k hts
  simp only [Option.some.injEq,Prod.mk.injEq] at h
  obtain ⟨rfl,rfl⟩:=h
  have hm:=fG h40'
  have hle2:=(fq g).2.2.2 _ _ _ _ _ _ _ _ hts
  refine dZ (a:=m) (b:=1) rfl rfl (by omega) ?_
  refine uI (a:=d) (b:=1) rfl rfl hd0 (by omega) ?_
  refine Run.call0E om n9 hI (hT s (m+1) (d - 1) 41 41 ts k S hts hs (by omega) (by omega)) fun v I' S2 w'=>?_
  rintro ⟨rfl,u,rfl,hu⟩ hE2 hI
  refine bj (v:=u) rfl ?_
  refine bj (v:=.int .i64 (k:Int)) rfl ?_
  refine ed (by omega) ?_
  refine bg (fun hb=>by cases hb) (fun _=>?_)
  obtain ⟨a,c,rfl,_⟩:=id hu
  refine mH ⟨_,_,_,rfl⟩ ?_
  refine dZ (a:=k) (b:=1) rfl rfl (by omega) ?_
  refine aX hI 0 rfl aj rfl rfl (by simp [Value.oneCell']) fun w' hI=>?_
  refine bA hI 0 aj rfl rfl ?_
  exact ⟨_,[],S2,rfl,hI.nil,hE2,rfl,_,rfl,RdT.iff.2 ⟨_,rfl,by simp [inI,T.kind,yx],by simp [inI,T.n,yx],xT hnl.2.2.1,hu⟩⟩
theorem Ez {f:Nat} (ihR:∀ g,g<f->lb g) (ihP:∀ g,g<f->xA g):lb f:=by
 intro s i d l t n S h hs hi hd hl w hI
 cases f with
 | zero=>simp [gy] at h
 | succ f=>
 refine uj ?_
 unfold qD
 refine bm hI bx fun b8 w' hI=>?_
 have hI:Inv w [] [.blk b8 (.cells #[.int .i64 0,.int .i64 0,.string ⟨#[]⟩,.slice none 0 0] ac)] S w':=hI
 cases l with
 | zero=>
  rw [gy] at h
  refine eK rfl ?_
  refine bg (fun _=>?_) (fun hb=>by cases hb)
  refine Run.call0E xm xG hI (ihP f (by omega) s i d t n S h hs hi hd) fun v I' S2 w'=>?_
  rintro ⟨rfl,cs,rfl,hcs⟩ hE2 hI
  obtain ⟨kv,rfl,_,_,_,a,k,rfl,_⟩:=RdT.iff.1 hcs
  refine bj (v:=.agg _) rfl ?_
  refine bj (v:=.int .i64 (n:Int)) rfl ?_
  refine aX hI 0 rfl aj rfl rfl (by simp [Value.oneCell']) fun w' hI=>?_
  refine bA hI 0 aj rfl rfl ?_
  exact ⟨_,[],S2,rfl,hI.nil,hE2,rfl,_,rfl,hcs⟩
 | succ l=>
  rw [gy] at h
  split at h
  ·cases h
  rename_i t0 n0 hr
  have hle:=(fq f).1 _ _ _ _ _ _ hr
  refine dR (by omega) ?_
  refine bg (fun hb=>by cases hb) (fun _=>?_)
  refine uI (a:=l+1) (b:=1) rfl rfl (by omega) (by omega) ?_
  rw [Nat.add_sub_cancel]
  refine Run.call0E eP eQ hI (ihR f (by omega) s i d l t0 n0 S hr hs hi hd (by omega)) fun v I' S1 w'=>?_
  rintro ⟨rfl,cs,rfl,hcs⟩ hE1 hI
  obtain ⟨kv,rfl,_,_,_,a,k,rfl,_⟩:=RdT.iff.1 hcs
  refine bj (v:=.agg _) rfl ?_
  refine bj (v:=.int .i64 (n0:Int)) rfl ?_
  refine bm hI bx fun b10 w' hI=>?_
  refine aX hI 1 rfl aj rfl rfl (by simp [Value.oneCell']) fun w' hI=>?_
  refine ⟨fun a w'=>∃ (f' n':Nat) (t':T) (ds:List Value) (S1:ax),f'<=f/\a=.int .i64 (n':Int)/\n'<=s.length/\yD f' s n' d l t'=some (t,n)/\Ext w.heap.size [] S S1/\RdT S1 ds t'/\Inv w [] [.blk b8 (.cells #[.int .i64 0,.int .i64 0,.string ⟨#[]⟩,.slice none 0 0] ac),.blk b10 (.cells ds.toArray ac)] S1 w',
   fun a _=>s.length+1 - (intOf a).toNat,⟨f,n0,t0,_,S1,Nat.le_refl _,rfl,hle.2,h,hE1,hcs,hI⟩,?_⟩
  clear h hE1 hcs hI hr hle
  intro _ _ _ _ t11 _ _ _ _ _ _ _ _ _ _ _ _ _ _ _ _ _ _ _ _ _ _ _ _ _ _ _ _ _ _ _ _ _ _ _ _ _ _ _ _ _ _ w'
  rintro ⟨f',n',t',ds,S1,hf',rfl,hn',ho,hE,hds,hI⟩
  obtain ⟨kd,rfl,_,_,hts',da,dm,rfl,_⟩:=RdT.iff.1 hds
  cases f' with
  | zero=>simp [yD] at ho
  | succ g=>
  rw [yD] at ho
  refine jT (by omega) ?_
  refine bg (fun _=>?_) (fun hb=>by cases hb)
  refine Run.callPure CU Cj hI (Bk hs hn' S1) fun w' hI=>?_
  cases hop:opF s n' with
  | none=>
   rw [hop] at ho
   simp only [Option.some.injEq,Prod.mk.injEq] at ho
   obtain ⟨rfl,rfl⟩:=ho
   simp only [opV]
   refine bj (v:=.string ⟨#[]⟩) rfl ?_
   refine bj (v:=.int .i64 (n':Int)) rfl ?_
   refine ⟨fun b w'=>b=.bool true/\Inv w [] [.blk b8 (.cells #[.int .i64 0,.int .i64 0,.string ⟨#[]⟩,.slice none 0 0] ac),.blk b10 (.cells #[.int .i64 t'.kind,.int .i64 t'.n,.string t'.name,.slice da t'.kids.length dm] ac)] S1 w',?_,?_⟩
   ·refine cr ?_
    rw [decide_eq_true rfl]
    repeat (first|refine ad ?_|refine ag (by decide) ?_|refine ae ?_|refine aq ?_|refine al ?_)
    exact ⟨rfl,hI⟩
   intro t48 _ _ _ _ _ _ _ w'
   rintro ⟨rfl,hI⟩
   refine bg (fun _=>?_) (fun hb=>by cases hb)
   refine bb hI 1 aj rfl rfl ?_
   refine aX hI 0 rfl aj rfl rfl (by simp [Value.oneCell']) fun w' hI=>?_
   refine bA hI 0 aj rfl rfl ?_
   exact ⟨_,[],S1,rfl,hI.nil,hE,rfl,_,rfl,hds⟩
  | some q=>
   obtain ⟨name,after⟩:=q
   rw [hop] at ho
   simp only [] at ho
   simp only [opV]
   have hol:=D0 hop
   refine bj (v:=.string (st name)) rfl ?_
   refine bj (v:=.int .i64 (after:Int)) rfl ?_
   refine ⟨fun b w'=>b=.bool (!decide (cG (st name)=((l+1:Nat):Int)))/\Inv w [] [.blk b8 (.cells #[.int .i64 0,.int .i64 0,.string ⟨#[]⟩,.slice none 0 0] ac),.blk b10 (.cells #[.int .i64 t'.kind,.int .i64 t'.n,.string t'.name,.slice da t'.kids.length dm] ac)] S1 w',?_,?_⟩
   ·refine tF (b:=[]) ?_
    rw [decide_eq_false hol.2.2.2]
    repeat (first|refine ad ?_|refine ag (by decide) ?_|refine ae ?_|refine aq ?_|refine al ?_)
    refine Run.callPure eC ez hI (dH _ S1) fun w' hI=>?_
    refine Cf ?_
    repeat (first|refine ad ?_|refine ag (by decide) ?_|refine ae ?_|refine aq ?_|refine al ?_)
    exact ⟨rfl,hI⟩
   intro t48 _ _ _ _ _ _ _ w'
   rintro ⟨rfl,hI⟩
   split at ho
   ·rename_i hlv
    rw [decide_eq_true hlv]
    refine bg (fun hb=>by cases hb) (fun _=>?_)
    split at ho
    ·cases ho
    rename_i r e hr
    have hle:=(fq g).1 _ _ _ _ _ _ hr
    refine uI (a:=l+1) (b:=1) rfl rfl (by omega) (by omega) ?_
    rw [Nat.add_sub_cancel]
    refine Run.call0E eP eQ hI (ihR g (by omega) s after d l r e S1 hr hs (by omega) hd (by omega)) fun v I' S2 w'=>?_
    rintro ⟨rfl,es,rfl,hes⟩ hE2 hI
    obtain ⟨ke,rfl,_,_,_,ea,em,rfl,_⟩:=RdT.iff.1 hes
    refine bj (v:=.agg _) rfl ?_
    refine bj (v:=.int .i64 (e:Int)) rfl ?_
    refine bm hI bx fun b14 w' hI=>?_
    refine aX hI 2 rfl aj rfl rfl (by simp [Value.oneCell']) fun w' hI=>?_
    refine ed (by omega) ?_
    refine bg (fun hb=>by cases hb) (fun _=>?_)
    refine bb hI 1 aj rfl rfl ?_
    refine bb hI 2 aj rfl rfl ?_
    refine k0 (v:=fun b=>.slice (some ⟨b,0,none⟩) 2 2) (o:=.cells #[.int .i64 t'.kind,.int .i64 t'.n,.string t'.name,.slice da t'.kids.length dm,.int .i64 r.kind,.int .i64 r.n,.string r.name,.slice ea r.kids.length em] ac) hI (by kernel_rfl) fun b20 w' hI=>?_
    obtain ⟨S3,hI,hE3,hS3⟩:=Inv.pub1 (A:=[_,_,_]) hI
    have hks:=xX hS3 (RdT.mono (hE2.1.trans hE3.1) hds) (RdT.mono hE3.1 hes)
    refine Run.call0E c9 db hI (dB (st name) (xT hol.2.2.1) hks (by simp)) fun v I' S4 w'=>?_
    rintro ⟨rfl,gs,rfl,hgs⟩ hE4 hI
    obtain ⟨kg,rfl,_,_,_,ga,gm,rfl,_⟩:=RdT.iff.1 hgs
    have hE':=((hE.trans hE2).trans hE3).trans hE4
    refine aX hI 1 rfl aj rfl rfl (by simp [Value.oneCell']) fun w' hI=>?_
    split at ho
    ·rename_i hl2
     subst hl2
     simp only [Option.some.injEq,Prod.mk.injEq] at ho
     obtain ⟨rfl,rfl⟩:=ho
     refine eK rfl ?_
     refine bg (fun _=>?_) (fun hb=>by cases hb)
     refine bb hI 1 aj rfl rfl ?_
     refine aX hI 0 rfl aj rfl rfl (by simp [Value.oneCell']) fun w' hI=>?_
     refine bA hI 0 aj rfl rfl ?_
     exact ⟨_,[],S4,rfl,hI.nil,hE',rfl,_,rfl,hgs⟩
    ·refine dR (by omega) ?_
     refine bg (fun hb=>by cases hb) (fun _=>?_)
     refine ⟨⟨g,e,_,_,S4,by omega,rfl,hle.2,ho,hE',hgs,hI.pick [true,true,false]⟩,?_⟩
     simp only [intOf,Int.toNat_natCast]
     omega
   ·rename_i hlv
    rw [decide_eq_false hlv]
    simp only [Option.some.injEq,Prod.mk.injEq] at ho
    obtain ⟨rfl,rfl⟩:=ho
    refine bg (fun _=>?_) (fun hb=>by cases hb)
    refine bb hI 1 aj rfl rfl ?_
    refine aX hI 0 rfl aj rfl rfl (by simp [Value.oneCell']) fun w' hI=>?_
    refine bA hI 0 aj rfl rfl ?_
    exact ⟨_,[],S1,rfl,hI.nil,hE,rfl,_,rfl,hds⟩
theorem Ea:∀ F f,f<F->lb f/\xA f/\nv f
 | 0,f,h=>by omega
 | F+1,f,h=>by
  have ih:=Ea F
  have hR:lb f:=Ez (fun g hg=>(ih g (by omega)).1) (fun g hg=>(ih g (by omega)).2.1)
  have hT:nv f:=Dq fun g hg=>(ih g (by omega)).1
  exact ⟨hR,Ep (fun g hg=>(ih g (by omega)).1) (fun g hg=>(ih g (by omega)).2.2),hT⟩
theorem wG (f:Nat):lb f:=(Ea (f+1) f (by omega)).1
end

end Go.Proofs.YtmnnpgdeecnfpaaGreat

/- The source of random numbers: spec.l18Open, pick, of, num. (printed by gen_rd.py) -/
namespace Go.Proofs.YtmnnpgdeecnfpaaGreat
open Go Go.RowKit

def jA (cs:List Value) (n:Nat):Prop:=cs=[.int .u8 (n:Int)]/\n<256
abbrev rdI (br:Nat) (sl:Value) (p:Nat):Item:=.blk br (.cells #[sl,.int .i64 (p:Int)] yo)
abbrev rdP (br:Nat):Value:=.pointer (some ⟨br,0,none⟩)
section
variable {P:Program} {w:World} {K:Value->World->Prop}
theorem Am {T:TypeId} {cx cy:Bool} {x y:Int} {a b:Nat} (hx:x=a) (hy:y=b) (hb:0<b) (hk:K (.int .i64 ((a % b:Nat):Int)) w):Run P (au .rem T cx cy (.int .i64 x) (.int .i64 y)) w K:=by
 subst hx hy
 exact AZ hb hk
theorem Bq {T:TypeId} {cx cy:Bool} {x y:Int} {a b:Nat} (hx:x=a) (hy:y=b) (hb:0<b) (ha:a<=9223372036854775807) (hk:K (.int .i64 ((a / b:Nat):Int)) w):Run P (au .quo T cx cy (.int .i64 x) (.int .i64 y)) w K:=by
 subst hx hy
 exact E5 hb ha hk
theorem Fb {T:TypeId} {cx cy:Bool} {x y:Int} {a b:Nat} (hx:x=a) (hy:y=b) (ha:a<4611686018427387904) (hb:b<4611686018427387904) (hk:K (.int .i64 ((a ^^^ b:Nat):Int)) w):Run P (au .xor T cx cy (.int .i64 x) (.int .i64 y)) w K:=by
 subst hx hy
 exact Ft ha hb hk
end
theorem RdSl.u8 {S:ax} {sl:Value} {ys:List Nat} (h:RdSl S 1 jA sl ys) (h0:0<ys.length):∃ b o cap c E fz,sl=.slice (some ⟨b,o,none⟩) ys.length cap/\S b=some (.cells c E fz)/\
  ∀ i,i<ys.length->∃ y:Nat,c[o+i * 1]?=some (.int .u8 (y:Int))/\y<256:=by
 obtain ⟨a,cap,rfl,hl,hc,h⟩:=h
 rcases h with rfl|⟨b,o,c,E,fz,rfl,hS,hR⟩
 ·simp at h0
 ·refine ⟨b,o,cap,c,E,fz,rfl,hS,fun i hi=>?_⟩
  obtain ⟨h1,h2⟩:=hR i hi
  exact ⟨ys[i],bC h1 0 _ rfl,h2⟩
section
attribute [local irreducible] Run CondV ah ba
abbrev FX (S:ax) (br:Nat) (sl:Value) (p n:Nat):Value->List Item->ax->Prop:=fun v I' S'=>S'=S/\I'=[rdI br sl (p+1)]/\∃ k:Nat,k<n/\v=.int .i64 (k:Int)
theorem dz {ys:List Nat} {S:ax} {sl:Value} {br p n:Nat} (h:RdSl S 1 jA sl ys) (hp:p<=1000000000000) (hn:0<n):Tri Tryz.prog tb [rdP br,.int .i64 (n:Int)] [rdI br sl p] S (FX S br sl p n):=by
 intro w hI
 refine ni ?_
 unfold ku
 obtain ⟨X,hX⟩:∃ X,X=bJ [rdI br sl p]:=⟨_,rfl⟩
 rw [<- hX] at hI ⊢
 have hsl:∃ a m cap,sl=.slice a m cap/\m=ys.length:=by
  obtain ⟨a,cap,e,_⟩:=h
  exact ⟨a,_,cap,e,rfl⟩
 refine dl ?_
 refine bh lg ?_
 refine bG hI 0 bw rfl rfl ?_
 refine ct (by omega) ?_
 refine dl ?_
 refine bh lg ?_
 refine dY hI 0 (n:=1) rfl (by decide +kernel) rfl (by simp) (by simp [Value.cells,Value.oneCell']) fun w' hI=>?_
 have hI:Inv w X [rdI br sl (p+1)] S w':=hI
 have hN:∃ N:Nat,N=ys.length:=⟨_,rfl⟩
 refine ⟨fun t w'=>t=.bool (decide (ys.length=0))/\Inv w X [rdI br sl (p+1)] S w',?_,?_⟩
 ·refine ed (by omega) ?_
  refine AG (fun _=>?_) (fun hb=>by simp at hb)
  refine dl ?_
  refine bh ex ?_
  refine bG hI 0 fy rfl rfl ?_
  refine bo h dO ?_
  refine bK ?_
  refine j2 ?_
  refine ⟨?_,hI⟩
  simp
 intro t24 _ _ _ _ _ _ _ _ _ w'
 rintro ⟨rfl,hI⟩
 refine bz (fun _=>⟨_,_,_,rfl,hI,Ext.refl _ _ _,rfl,rfl,0,hn,rfl⟩) (fun h0=>?_)
 have h0:0<ys.length:=by omega
 obtain ⟨b,o,cap,c,E,fz,rfl,hS,hc⟩:=h.u8 h0
 refine dl ?_
 refine bh lg ?_
 refine bG hI 0 bw rfl rfl ?_
 refine pF (by omega) ?_
 have ep:((p+1:Nat):Int) - 1=(p:Int):=by omega
 rw [ep]
 refine dl ?_
 refine bh ex ?_
 refine bG hI 0 fy rfl rfl ?_
 refine iD dO ?_
 refine dh ?_
 refine bz (fun hlt=>?_) (fun _=>?_)
 ·have hlt':p<ys.length:=by omega
  obtain ⟨y,hy,hy2⟩:=hc p hlt'
  refine dl ?_
  refine bh ex ?_
  refine bG hI 0 fy rfl rfl ?_
  refine bv dO hlt' ?_
  refine d4 tl ((hI.cellS hS).trans hy) ?_
  refine lE fa lT (IntWalk.i64_in _ (by omega)) ?_
  refine AZ hn ?_
  exact ⟨_,_,_,rfl,hI,Ext.refl _ _ _,rfl,rfl,y % n,Nat.mod_lt _ hn,rfl⟩
 ·obtain ⟨i1,hd1⟩:∃ i1,i1=p % ys.length:=⟨_,rfl⟩
  obtain ⟨i2,hd2⟩:∃ i2,i2=(p * 7+3) % ys.length:=⟨_,rfl⟩
  obtain ⟨q,hdq⟩:∃ q,q=p / ys.length:=⟨_,rfl⟩
  have hi1:i1<ys.length:=by rw [hd1]; exact Nat.mod_lt _ h0
  have hi2:i2<ys.length:=by rw [hd2]; exact Nat.mod_lt _ h0
  have hq:q<=p:=by rw [hdq]; exact Nat.div_le_self ..
  obtain ⟨y1,hv1,hy1⟩:=hc i1 hi1
  obtain ⟨y2,hv2,hy2⟩:=hc i2 hi2
  skip
  refine ⟨fun D x6 gZ iw hH ik ib ix iA g6 h8 ie ir g5 ic iu ia io g9 hK ig g7 ip iv ij hZ hY hG c8 c7 cP cS cU cO cN cT cQ cR cV cW cA cq cB cC cE cD cz w_=>(D 0=true->cz=.pointer (some ⟨br,0,none⟩))/\(D 1=true->cD=.pointer (some ⟨br,0,none⟩))/\(D 2=true->cE=.pointer (some ⟨br,0,none⟩))/\(D 3=true->cC=.slice (some ⟨b,o,none⟩) ys.length cap)/\(D 4=true->cB=.int .i64 (p:Int))/\(D 5=true->cq=.pointer (some ⟨br,0,none⟩))/\(D 6=true->cA=.pointer (some ⟨br,0,none⟩))/\(D 7=true->cW=.pointer (some ⟨br,0,none⟩))/\(D 8=true->cV=.slice (some ⟨b,o,none⟩) ys.length cap)/\(D 9=true->cR=.int .i64 (ys.length:Int))/\(D 10=true->cQ=.int .i64 (((i1:Nat):Int)))/\(D 11=true->cT=.pointer (some ⟨b,o+i1 * 1,none⟩))/\(D 12=true->cN=.int .u8 ((y1:Nat):Int))/\(D 13=true->cO=.int .i64 (((y1:Nat):Int)))/\(D 14=true->cU=.int .i64 ((((y1:Nat):Int) * 131)))/\(D 15=true->cS=.pointer (some ⟨br,0,none⟩))/\(D 16=true->cP=.pointer (some ⟨br,0,none⟩))/\(D 17=true->c7=.pointer (some ⟨br,0,none⟩))/\(D 18=true->c8=.slice (some ⟨b,o,none⟩) ys.length cap)/\(D 19=true->hG=.int .i64 (p:Int))/\(D 20=true->hY=.int .i64 (((p:Int) * 7)))/\(D 21=true->hZ=.int .i64 ((((p:Int) * 7)+3)))/\(D 22=true->ij=.pointer (some ⟨br,0,none⟩))/\(D 23=true->iv=.pointer (some ⟨br,0,none⟩))/\(D 24=true->ip=.pointer (some ⟨br,0,none⟩))/\(D 25=true->g7=.slice (some ⟨b,o,none⟩) ys.length cap)/\(D 26=true->ig=.int .i64 (ys.length:Int))/\(D 27=true->hK=.int .i64 (((i2:Nat):Int)))/\(D 28=true->g9=.pointer (some ⟨b,o+i2 * 1,none⟩))/\(D 29=true->io=.int .u8 ((y2:Nat):Int))/\(D 30=true->ia=.int .i64 (((y2:Nat):Int)))/\(D 31=true->iu=.int .i64 ((((y2:Nat):Int) * 1117)))/\(D 32=true->ic=.int .i64 (((((y1:Nat):Int) * 131)+(((y2:Nat):Int) * 1117))))/\(D 33=true->g5=.int .i64 (p:Int))/\(D 34=true->ir=.int .i64 (((p:Int) * 29)))/\(D 35=true->ie=.int .i64 ((((((y1:Nat):Int) * 131)+(((y2:Nat):Int) * 1117))+((p:Int) * 29))))/\(D 36=true->h8=.int .i64 (p:Int))/\(D 37=true->g6=.pointer (some ⟨br,0,none⟩))/\(D 38=true->iA=.pointer (some ⟨br,0,none⟩))/\(D 39=true->ix=.pointer (some ⟨br,0,none⟩))/\(D 40=true->ib=.slice (some ⟨b,o,none⟩) ys.length cap)/\(D 41=true->ik=.int .i64 (ys.length:Int))/\(D 42=true->hH=.int .i64 (((q:Nat):Int)))/\(D 43=true->iw=.int .i64 ((((q:Nat):Int) * 53)))/\(D 44=true->gZ=.int .i64 (((((((y1:Nat):Int) * 131)+(((y2:Nat):Int) * 1117))+((p:Int) * 29))+(((q:Nat):Int) * 53))))/\(D 45=true->x6=.int .i64 (((((((y1:Nat):Int) * 131)+(((y2:Nat):Int) * 1117))+((p:Int) * 29))+(((q:Nat):Int) * 53))))/\Inv w X [rdI br (.slice (some ⟨b,o,none⟩) ys.length cap) (p+1)] S w_,⟨af,af,af,af,af,af,af,af,af,af,af,af,af,af,af,af,af,af,af,af,af,af,af,af,af,af,af,af,af,af,af,af,af,af,af,af,af,af,af,af,af,af,af,af,af,af,hI.draw⟩,⟨?_,?_,?_,?_,?_,?_,?_,?_,?_,?_,?_,?_,?_,?_,?_,?_,?_,?_,?_,?_,?_,?_,?_,?_,?_,?_,?_,?_,?_,?_,?_,?_,?_,?_,?_,?_,?_,?_,?_,?_,?_,?_,?_,?_,?_,?_,trivial⟩,?_⟩
  ·intro D a6  x6 gZ iw hH ik ib ix iA g6 h8 ie ir g5 ic iu ia io g9 hK ig g7 ip iv ij hZ hY hG c8 c7 cP cS cU cO cN cT cQ cR cV cW cA cq cB cC cE cD cz w_
   rintro ⟨aF,aC,aB,aE,aD,aG,az,aK,aQ,aU,ao,ar,aw,aI,aJ,aM,aO,aN,aP,aT,a5,aZ,aY,a4,a7,bR,bX,bW,cb,bY,cd,bL,bV,bU,bP,bN,ca,bS,b0,ce,bM,bT,bZ,bO,bQ,cf,hI⟩
   exact ⟨fun _=>rfl,aC,aB,aE,aD,aG,az,aK,aQ,aU,ao,ar,aw,aI,aJ,aM,aO,aN,aP,aT,a5,aZ,aY,a4,a7,bR,bX,bW,cb,bY,cd,bL,bV,bU,bP,bN,ca,bS,b0,ce,bM,bT,bZ,bO,bQ,cf,hI⟩
  ·intro D a6 dc x6 gZ iw hH ik ib ix iA g6 h8 ie ir g5 ic iu ia io g9 hK ig g7 ip iv ij hZ hY hG c8 c7 cP cS cU cO cN cT cQ cR cV cW cA cq cB cC cE cD cz w_
   rintro ⟨aF,aC,aB,aE,aD,aG,az,aK,aQ,aU,ao,ar,aw,aI,aJ,aM,aO,aN,aP,aT,a5,aZ,aY,a4,a7,bR,bX,bW,cb,bY,cd,bL,bV,bU,bP,bN,ca,bS,b0,ce,bM,bT,bZ,bO,bQ,cf,hI⟩
   obtain rfl:=aF dc
   refine dl ?_
   exact ⟨aF,fun _=>rfl,aB,aE,aD,aG,az,aK,aQ,aU,ao,ar,aw,aI,aJ,aM,aO,aN,aP,aT,a5,aZ,aY,a4,a7,bR,bX,bW,cb,bY,cd,bL,bV,bU,bP,bN,ca,bS,b0,ce,bM,bT,bZ,bO,bQ,cf,hI⟩
  ·intro D a6 eB x6 gZ iw hH ik ib ix iA g6 h8 ie ir g5 ic iu ia io g9 hK ig g7 ip iv ij hZ hY hG c8 c7 cP cS cU cO cN cT cQ cR cV cW cA cq cB cC cE cD cz w_
   rintro ⟨aF,aC,aB,aE,aD,aG,az,aK,aQ,aU,ao,ar,aw,aI,aJ,aM,aO,aN,aP,aT,a5,aZ,aY,a4,a7,bR,bX,bW,cb,bY,cd,bL,bV,bU,bP,bN,ca,bS,b0,ce,bM,bT,bZ,bO,bQ,cf,hI⟩
   obtain rfl:=aC eB
   refine bh ex ?_
   exact ⟨aF,aC,fun _=>rfl,aE,aD,aG,az,aK,aQ,aU,ao,ar,aw,aI,aJ,aM,aO,aN,aP,aT,a5,aZ,aY,a4,a7,bR,bX,bW,cb,bY,cd,bL,bV,bU,bP,bN,ca,bS,b0,ce,bM,bT,bZ,bO,bQ,cf,hI⟩
  ·intro D a6 dy x6 gZ iw hH ik ib ix iA g6 h8 ie ir g5 ic iu ia io g9 hK ig g7 ip iv ij hZ hY hG c8 c7 cP cS cU cO cN cT cQ cR cV cW cA cq cB cC cE cD cz w_
   rintro ⟨aF,aC,aB,aE,aD,aG,az,aK,aQ,aU,ao,ar,aw,aI,aJ,aM,aO,aN,aP,aT,a5,aZ,aY,a4,a7,bR,bX,bW,cb,bY,cd,bL,bV,bU,bP,bN,ca,bS,b0,ce,bM,bT,bZ,bO,bQ,cf,hI⟩
   obtain rfl:=aB dy
   refine bG hI 0 fy rfl rfl ?_
   exact ⟨aF,aC,aB,fun _=>rfl,aD,aG,az,aK,aQ,aU,ao,ar,aw,aI,aJ,aM,aO,aN,aP,aT,a5,aZ,aY,a4,a7,bR,bX,bW,cb,bY,cd,bL,bV,bU,bP,bN,ca,bS,b0,ce,bM,bT,bZ,bO,bQ,cf,hI⟩
  ·intro D a6  x6 gZ iw hH ik ib ix iA g6 h8 ie ir g5 ic iu ia io g9 hK ig g7 ip iv ij hZ hY hG c8 c7 cP cS cU cO cN cT cQ cR cV cW cA cq cB cC cE cD cz w_
   rintro ⟨aF,aC,aB,aE,aD,aG,az,aK,aQ,aU,ao,ar,aw,aI,aJ,aM,aO,aN,aP,aT,a5,aZ,aY,a4,a7,bR,bX,bW,cb,bY,cd,bL,bV,bU,bP,bN,ca,bS,b0,ce,bM,bT,bZ,bO,bQ,cf,hI⟩
   exact ⟨aF,aC,aB,aE,fun _=>rfl,aG,az,aK,aQ,aU,ao,ar,aw,aI,aJ,aM,aO,aN,aP,aT,a5,aZ,aY,a4,a7,bR,bX,bW,cb,bY,cd,bL,bV,bU,bP,bN,ca,bS,b0,ce,bM,bT,bZ,bO,bQ,cf,hI⟩
  ·intro D a6  x6 gZ iw hH ik ib ix iA g6 h8 ie ir g5 ic iu ia io g9 hK ig g7 ip iv ij hZ hY hG c8 c7 cP cS cU cO cN cT cQ cR cV cW cA cq cB cC cE cD cz w_
   rintro ⟨aF,aC,aB,aE,aD,aG,az,aK,aQ,aU,ao,ar,aw,aI,aJ,aM,aO,aN,aP,aT,a5,aZ,aY,a4,a7,bR,bX,bW,cb,bY,cd,bL,bV,bU,bP,bN,ca,bS,b0,ce,bM,bT,bZ,bO,bQ,cf,hI⟩
   exact ⟨aF,aC,aB,aE,aD,fun _=>rfl,az,aK,aQ,aU,ao,ar,aw,aI,aJ,aM,aO,aN,aP,aT,a5,aZ,aY,a4,a7,bR,bX,bW,cb,bY,cd,bL,bV,bU,bP,bN,ca,bS,b0,ce,bM,bT,bZ,bO,bQ,cf,hI⟩
  ·intro D a6 eq x6 gZ iw hH ik ib ix iA g6 h8 ie ir g5 ic iu ia io g9 hK ig g7 ip iv ij hZ hY hG c8 c7 cP cS cU cO cN cT cQ cR cV cW cA cq cB cC cE cD cz w_
   rintro ⟨aF,aC,aB,aE,aD,aG,az,aK,aQ,aU,ao,ar,aw,aI,aJ,aM,aO,aN,aP,aT,a5,aZ,aY,a4,a7,bR,bX,bW,cb,bY,cd,bL,bV,bU,bP,bN,ca,bS,b0,ce,bM,bT,bZ,bO,bQ,cf,hI⟩
   obtain rfl:=aG eq
   refine dl ?_
   exact ⟨aF,aC,aB,aE,aD,aG,fun _=>rfl,aK,aQ,aU,ao,ar,aw,aI,aJ,aM,aO,aN,aP,aT,a5,aZ,aY,a4,a7,bR,bX,bW,cb,bY,cd,bL,bV,bU,bP,bN,ca,bS,b0,ce,bM,bT,bZ,bO,bQ,cf,hI⟩
  ·intro D a6 cw x6 gZ iw hH ik ib ix iA g6 h8 ie ir g5 ic iu ia io g9 hK ig g7 ip iv ij hZ hY hG c8 c7 cP cS cU cO cN cT cQ cR cV cW cA cq cB cC cE cD cz w_
   rintro ⟨aF,aC,aB,aE,aD,aG,az,aK,aQ,aU,ao,ar,aw,aI,aJ,aM,aO,aN,aP,aT,a5,aZ,aY,a4,a7,bR,bX,bW,cb,bY,cd,bL,bV,bU,bP,bN,ca,bS,b0,ce,bM,bT,bZ,bO,bQ,cf,hI⟩
   obtain rfl:=az cw
   refine bh ex ?_
   exact ⟨aF,aC,aB,aE,aD,aG,az,fun _=>rfl,aQ,aU,ao,ar,aw,aI,aJ,aM,aO,aN,aP,aT,a5,aZ,aY,a4,a7,bR,bX,bW,cb,bY,cd,bL,bV,bU,bP,bN,ca,bS,b0,ce,bM,bT,bZ,bO,bQ,cf,hI⟩
  ·intro D a6 d6 x6 gZ iw hH ik ib ix iA g6 h8 ie ir g5 ic iu ia io g9 hK ig g7 ip iv ij hZ hY hG c8 c7 cP cS cU cO cN cT cQ cR cV cW cA cq cB cC cE cD cz w_
   rintro ⟨aF,aC,aB,aE,aD,aG,az,aK,aQ,aU,ao,ar,aw,aI,aJ,aM,aO,aN,aP,aT,a5,aZ,aY,a4,a7,bR,bX,bW,cb,bY,cd,bL,bV,bU,bP,bN,ca,bS,b0,ce,bM,bT,bZ,bO,bQ,cf,hI⟩
   obtain rfl:=aK d6
   refine bG hI 0 fy rfl rfl ?_
   exact ⟨aF,aC,aB,aE,aD,aG,az,aK,fun _=>rfl,aU,ao,ar,aw,aI,aJ,aM,aO,aN,aP,aT,a5,aZ,aY,a4,a7,bR,bX,bW,cb,bY,cd,bL,bV,bU,bP,bN,ca,bS,b0,ce,bM,bT,bZ,bO,bQ,cf,hI⟩
  ·intro D a6 gp x6 gZ iw hH ik ib ix iA g6 h8 ie ir g5 ic iu ia io g9 hK ig g7 ip iv ij hZ hY hG c8 c7 cP cS cU cO cN cT cQ cR cV cW cA cq cB cC cE cD cz w_
   rintro ⟨aF,aC,aB,aE,aD,aG,az,aK,aQ,aU,ao,ar,aw,aI,aJ,aM,aO,aN,aP,aT,a5,aZ,aY,a4,a7,bR,bX,bW,cb,bY,cd,bL,bV,bU,bP,bN,ca,bS,b0,ce,bM,bT,bZ,bO,bQ,cf,hI⟩
   obtain rfl:=aQ gp
   refine iD dO ?_
   exact ⟨aF,aC,aB,aE,aD,aG,az,aK,aQ,fun _=>rfl,ao,ar,aw,aI,aJ,aM,aO,aN,aP,aT,a5,aZ,aY,a4,a7,bR,bX,bW,cb,bY,cd,bL,bV,bU,bP,bN,ca,bS,b0,ce,bM,bT,bZ,bO,bQ,cf,hI⟩
  ·intro D a6 jj eh x6 gZ iw hH ik ib ix iA g6 h8 ie ir g5 ic iu ia io g9 hK ig g7 ip iv ij hZ hY hG c8 c7 cP cS cU cO cN cT cQ cR cV cW cA cq cB cC cE cD cz w_
   rintro ⟨aF,aC,aB,aE,aD,aG,az,aK,aQ,aU,ao,ar,aw,aI,aJ,aM,aO,aN,aP,aT,a5,aZ,aY,a4,a7,bR,bX,bW,cb,bY,cd,bL,bV,bU,bP,bN,ca,bS,b0,ce,bM,bT,bZ,bO,bQ,cf,hI⟩
   obtain rfl:=aD jj
   obtain rfl:=aU eh
   refine Am (a:=p) (b:=ys.length) (by omega) rfl h0 ?_; rw [<- hd1]
   exact ⟨aF,aC,aB,aE,aD,aG,az,aK,aQ,aU,fun _=>rfl,ar,aw,aI,aJ,aM,aO,aN,aP,aT,a5,aZ,aY,a4,a7,bR,bX,bW,cb,bY,cd,bL,bV,bU,bP,bN,ca,bS,b0,ce,bM,bT,bZ,bO,bQ,cf,hI⟩
  ·intro D a6 ef fi x6 gZ iw hH ik ib ix iA g6 h8 ie ir g5 ic iu ia io g9 hK ig g7 ip iv ij hZ hY hG c8 c7 cP cS cU cO cN cT cQ cR cV cW cA cq cB cC cE cD cz w_
   rintro ⟨aF,aC,aB,aE,aD,aG,az,aK,aQ,aU,ao,ar,aw,aI,aJ,aM,aO,aN,aP,aT,a5,aZ,aY,a4,a7,bR,bX,bW,cb,bY,cd,bL,bV,bU,bP,bN,ca,bS,b0,ce,bM,bT,bZ,bO,bQ,cf,hI⟩
   obtain rfl:=aE ef
   obtain rfl:=ao fi
   refine bv dO hi1 ?_
   exact ⟨aF,aC,aB,aE,aD,aG,az,aK,aQ,aU,ao,fun _=>rfl,aw,aI,aJ,aM,aO,aN,aP,aT,a5,aZ,aY,a4,a7,bR,bX,bW,cb,bY,cd,bL,bV,bU,bP,bN,ca,bS,b0,ce,bM,bT,bZ,bO,bQ,cf,hI⟩
  ·intro D a6 kl x6 gZ iw hH ik ib ix iA g6 h8 ie ir g5 ic iu ia io g9 hK ig g7 ip iv ij hZ hY hG c8 c7 cP cS cU cO cN cT cQ cR cV cW cA cq cB cC cE cD cz w_
   rintro ⟨aF,aC,aB,aE,aD,aG,az,aK,aQ,aU,ao,ar,aw,aI,aJ,aM,aO,aN,aP,aT,a5,aZ,aY,a4,a7,bR,bX,bW,cb,bY,cd,bL,bV,bU,bP,bN,ca,bS,b0,ce,bM,bT,bZ,bO,bQ,cf,hI⟩
   obtain rfl:=ar kl
   refine d4 tl ((hI.cellS hS).trans hv1) ?_
   exact ⟨aF,aC,aB,aE,aD,aG,az,aK,aQ,aU,ao,ar,fun _=>rfl,aI,aJ,aM,aO,aN,aP,aT,a5,aZ,aY,a4,a7,bR,bX,bW,cb,bY,cd,bL,bV,bU,bP,bN,ca,bS,b0,ce,bM,bT,bZ,bO,bQ,cf,hI⟩
  ·intro D a6 kF x6 gZ iw hH ik ib ix iA g6 h8 ie ir g5 ic iu ia io g9 hK ig g7 ip iv ij hZ hY hG c8 c7 cP cS cU cO cN cT cQ cR cV cW cA cq cB cC cE cD cz w_
   rintro ⟨aF,aC,aB,aE,aD,aG,az,aK,aQ,aU,ao,ar,aw,aI,aJ,aM,aO,aN,aP,aT,a5,aZ,aY,a4,a7,bR,bX,bW,cb,bY,cd,bL,bV,bU,bP,bN,ca,bS,b0,ce,bM,bT,bZ,bO,bQ,cf,hI⟩
   obtain rfl:=aw kF
   refine lE fa lT (IntWalk.i64_in _ (by omega)) ?_
   exact ⟨aF,aC,aB,aE,aD,aG,az,aK,aQ,aU,ao,ar,aw,fun _=>rfl,aJ,aM,aO,aN,aP,aT,a5,aZ,aY,a4,a7,bR,bX,bW,cb,bY,cd,bL,bV,bU,bP,bN,ca,bS,b0,ce,bM,bT,bZ,bO,bQ,cf,hI⟩
  ·intro D a6 i7 x6 gZ iw hH ik ib ix iA g6 h8 ie ir g5 ic iu ia io g9 hK ig g7 ip iv ij hZ hY hG c8 c7 cP cS cU cO cN cT cQ cR cV cW cA cq cB cC cE cD cz w_
   rintro ⟨aF,aC,aB,aE,aD,aG,az,aK,aQ,aU,ao,ar,aw,aI,aJ,aM,aO,aN,aP,aT,a5,aZ,aY,a4,a7,bR,bX,bW,cb,bY,cd,bL,bV,bU,bP,bN,ca,bS,b0,ce,bM,bT,bZ,bO,bQ,cf,hI⟩
   obtain rfl:=aI i7
   refine wi (by omega) ?_
   exact ⟨aF,aC,aB,aE,aD,aG,az,aK,aQ,aU,ao,ar,aw,aI,fun _=>rfl,aM,aO,aN,aP,aT,a5,aZ,aY,a4,a7,bR,bX,bW,cb,bY,cd,bL,bV,bU,bP,bN,ca,bS,b0,ce,bM,bT,bZ,bO,bQ,cf,hI⟩
  ·intro D a6  x6 gZ iw hH ik ib ix iA g6 h8 ie ir g5 ic iu ia io g9 hK ig g7 ip iv ij hZ hY hG c8 c7 cP cS cU cO cN cT cQ cR cV cW cA cq cB cC cE cD cz w_
   rintro ⟨aF,aC,aB,aE,aD,aG,az,aK,aQ,aU,ao,ar,aw,aI,aJ,aM,aO,aN,aP,aT,a5,aZ,aY,a4,a7,bR,bX,bW,cb,bY,cd,bL,bV,bU,bP,bN,ca,bS,b0,ce,bM,bT,bZ,bO,bQ,cf,hI⟩
   exact ⟨aF,aC,aB,aE,aD,aG,az,aK,aQ,aU,ao,ar,aw,aI,aJ,fun _=>rfl,aO,aN,aP,aT,a5,aZ,aY,a4,a7,bR,bX,bW,cb,bY,cd,bL,bV,bU,bP,bN,ca,bS,b0,ce,bM,bT,bZ,bO,bQ,cf,hI⟩
  ·intro D a6 mJ x6 gZ iw hH ik ib ix iA g6 h8 ie ir g5 ic iu ia io g9 hK ig g7 ip iv ij hZ hY hG c8 c7 cP cS cU cO cN cT cQ cR cV cW cA cq cB cC cE cD cz w_
   rintro ⟨aF,aC,aB,aE,aD,aG,az,aK,aQ,aU,ao,ar,aw,aI,aJ,aM,aO,aN,aP,aT,a5,aZ,aY,a4,a7,bR,bX,bW,cb,bY,cd,bL,bV,bU,bP,bN,ca,bS,b0,ce,bM,bT,bZ,bO,bQ,cf,hI⟩
   obtain rfl:=aM mJ
   refine dl ?_
   exact ⟨aF,aC,aB,aE,aD,aG,az,aK,aQ,aU,ao,ar,aw,aI,aJ,aM,fun _=>rfl,aN,aP,aT,a5,aZ,aY,a4,a7,bR,bX,bW,cb,bY,cd,bL,bV,bU,bP,bN,ca,bS,b0,ce,bM,bT,bZ,bO,bQ,cf,hI⟩
  ·intro D a6 FE x6 gZ iw hH ik ib ix iA g6 h8 ie ir g5 ic iu ia io g9 hK ig g7 ip iv ij hZ hY hG c8 c7 cP cS cU cO cN cT cQ cR cV cW cA cq cB cC cE cD cz w_
   rintro ⟨aF,aC,aB,aE,aD,aG,az,aK,aQ,aU,ao,ar,aw,aI,aJ,aM,aO,aN,aP,aT,a5,aZ,aY,a4,a7,bR,bX,bW,cb,bY,cd,bL,bV,bU,bP,bN,ca,bS,b0,ce,bM,bT,bZ,bO,bQ,cf,hI⟩
   obtain rfl:=aO FE
   refine bh ex ?_
   exact ⟨aF,aC,aB,aE,aD,aG,az,aK,aQ,aU,ao,ar,aw,aI,aJ,aM,aO,fun _=>rfl,aP,aT,a5,aZ,aY,a4,a7,bR,bX,bW,cb,bY,cd,bL,bV,bU,bP,bN,ca,bS,b0,ce,bM,bT,bZ,bO,bQ,cf,hI⟩
  ·intro D a6 DL x6 gZ iw hH ik ib ix iA g6 h8 ie ir g5 ic iu ia io g9 hK ig g7 ip iv ij hZ hY hG c8 c7 cP cS cU cO cN cT cQ cR cV cW cA cq cB cC cE cD cz w_
   rintro ⟨aF,aC,aB,aE,aD,aG,az,aK,aQ,aU,ao,ar,aw,aI,aJ,aM,aO,aN,aP,aT,a5,aZ,aY,a4,a7,bR,bX,bW,cb,bY,cd,bL,bV,bU,bP,bN,ca,bS,b0,ce,bM,bT,bZ,bO,bQ,cf,hI⟩
   obtain rfl:=aN DL
   refine bG hI 0 fy rfl rfl ?_
   exact ⟨aF,aC,aB,aE,aD,aG,az,aK,aQ,aU,ao,ar,aw,aI,aJ,aM,aO,aN,fun _=>rfl,aT,a5,aZ,aY,a4,a7,bR,bX,bW,cb,bY,cd,bL,bV,bU,bP,bN,ca,bS,b0,ce,bM,bT,bZ,bO,bQ,cf,hI⟩
  ·intro D a6  x6 gZ iw hH ik ib ix iA g6 h8 ie ir g5 ic iu ia io g9 hK ig g7 ip iv ij hZ hY hG c8 c7 cP cS cU cO cN cT cQ cR cV cW cA cq cB cC cE cD cz w_
   rintro ⟨aF,aC,aB,aE,aD,aG,az,aK,aQ,aU,ao,ar,aw,aI,aJ,aM,aO,aN,aP,aT,a5,aZ,aY,a4,a7,bR,bX,bW,cb,bY,cd,bL,bV,bU,bP,bN,ca,bS,b0,ce,bM,bT,bZ,bO,bQ,cf,hI⟩
   exact ⟨aF,aC,aB,aE,aD,aG,az,aK,aQ,aU,ao,ar,aw,aI,aJ,aM,aO,aN,aP,fun _=>rfl,a5,aZ,aY,a4,a7,bR,bX,bW,cb,bY,cd,bL,bV,bU,bP,bN,ca,bS,b0,ce,bM,bT,bZ,bO,bQ,cf,hI⟩
  ·intro D a6 fF x6 gZ iw hH ik ib ix iA g6 h8 ie ir g5 ic iu ia io g9 hK ig g7 ip iv ij hZ hY hG c8 c7 cP cS cU cO cN cT cQ cR cV cW cA cq cB cC cE cD cz w_
   rintro ⟨aF,aC,aB,aE,aD,aG,az,aK,aQ,aU,ao,ar,aw,aI,aJ,aM,aO,aN,aP,aT,a5,aZ,aY,a4,a7,bR,bX,bW,cb,bY,cd,bL,bV,bU,bP,bN,ca,bS,b0,ce,bM,bT,bZ,bO,bQ,cf,hI⟩
   obtain rfl:=aT fF
   refine wi (by omega) ?_
   exact ⟨aF,aC,aB,aE,aD,aG,az,aK,aQ,aU,ao,ar,aw,aI,aJ,aM,aO,aN,aP,aT,fun _=>rfl,aZ,aY,a4,a7,bR,bX,bW,cb,bY,cd,bL,bV,bU,bP,bN,ca,bS,b0,ce,bM,bT,bZ,bO,bQ,cf,hI⟩
  ·intro D a6 ta x6 gZ iw hH ik ib ix iA g6 h8 ie ir g5 ic iu ia io g9 hK ig g7 ip iv ij hZ hY hG c8 c7 cP cS cU cO cN cT cQ cR cV cW cA cq cB cC cE cD cz w_
   rintro ⟨aF,aC,aB,aE,aD,aG,az,aK,aQ,aU,ao,ar,aw,aI,aJ,aM,aO,aN,aP,aT,a5,aZ,aY,a4,a7,bR,bX,bW,cb,bY,cd,bL,bV,bU,bP,bN,ca,bS,b0,ce,bM,bT,bZ,bO,bQ,cf,hI⟩
   obtain rfl:=a5 ta
   refine ct (by omega) ?_
   exact ⟨aF,aC,aB,aE,aD,aG,az,aK,aQ,aU,ao,ar,aw,aI,aJ,aM,aO,aN,aP,aT,a5,fun _=>rfl,aY,a4,a7,bR,bX,bW,cb,bY,cd,bL,bV,bU,bP,bN,ca,bS,b0,ce,bM,bT,bZ,bO,bQ,cf,hI⟩
  ·intro D a6  x6 gZ iw hH ik ib ix iA g6 h8 ie ir g5 ic iu ia io g9 hK ig g7 ip iv ij hZ hY hG c8 c7 cP cS cU cO cN cT cQ cR cV cW cA cq cB cC cE cD cz w_
   rintro ⟨aF,aC,aB,aE,aD,aG,az,aK,aQ,aU,ao,ar,aw,aI,aJ,aM,aO,aN,aP,aT,a5,aZ,aY,a4,a7,bR,bX,bW,cb,bY,cd,bL,bV,bU,bP,bN,ca,bS,b0,ce,bM,bT,bZ,bO,bQ,cf,hI⟩
   exact ⟨aF,aC,aB,aE,aD,aG,az,aK,aQ,aU,ao,ar,aw,aI,aJ,aM,aO,aN,aP,aT,a5,aZ,fun _=>rfl,a4,a7,bR,bX,bW,cb,bY,cd,bL,bV,bU,bP,bN,ca,bS,b0,ce,bM,bT,bZ,bO,bQ,cf,hI⟩
  ·intro D a6 FQ x6 gZ iw hH ik ib ix iA g6 h8 ie ir g5 ic iu ia io g9 hK ig g7 ip iv ij hZ hY hG c8 c7 cP cS cU cO cN cT cQ cR cV cW cA cq cB cC cE cD cz w_
   rintro ⟨aF,aC,aB,aE,aD,aG,az,aK,aQ,aU,ao,ar,aw,aI,aJ,aM,aO,aN,aP,aT,a5,aZ,aY,a4,a7,bR,bX,bW,cb,bY,cd,bL,bV,bU,bP,bN,ca,bS,b0,ce,bM,bT,bZ,bO,bQ,cf,hI⟩
   obtain rfl:=aY FQ
   refine dl ?_
   exact ⟨aF,aC,aB,aE,aD,aG,az,aK,aQ,aU,ao,ar,aw,aI,aJ,aM,aO,aN,aP,aT,a5,aZ,aY,fun _=>rfl,a7,bR,bX,bW,cb,bY,cd,bL,bV,bU,bP,bN,ca,bS,b0,ce,bM,bT,bZ,bO,bQ,cf,hI⟩
  ·intro D a6 FL x6 gZ iw hH ik ib ix iA g6 h8 ie ir g5 ic iu ia io g9 hK ig g7 ip iv ij hZ hY hG c8 c7 cP cS cU cO cN cT cQ cR cV cW cA cq cB cC cE cD cz w_
   rintro ⟨aF,aC,aB,aE,aD,aG,az,aK,aQ,aU,ao,ar,aw,aI,aJ,aM,aO,aN,aP,aT,a5,aZ,aY,a4,a7,bR,bX,bW,cb,bY,cd,bL,bV,bU,bP,bN,ca,bS,b0,ce,bM,bT,bZ,bO,bQ,cf,hI⟩
   obtain rfl:=a4 FL
   refine bh ex ?_
   exact ⟨aF,aC,aB,aE,aD,aG,az,aK,aQ,aU,ao,ar,aw,aI,aJ,aM,aO,aN,aP,aT,a5,aZ,aY,a4,fun _=>rfl,bR,bX,bW,cb,bY,cd,bL,bV,bU,bP,bN,ca,bS,b0,ce,bM,bT,bZ,bO,bQ,cf,hI⟩
  ·intro D a6 F5 x6 gZ iw hH ik ib ix iA g6 h8 ie ir g5 ic iu ia io g9 hK ig g7 ip iv ij hZ hY hG c8 c7 cP cS cU cO cN cT cQ cR cV cW cA cq cB cC cE cD cz w_
   rintro ⟨aF,aC,aB,aE,aD,aG,az,aK,aQ,aU,ao,ar,aw,aI,aJ,aM,aO,aN,aP,aT,a5,aZ,aY,a4,a7,bR,bX,bW,cb,bY,cd,bL,bV,bU,bP,bN,ca,bS,b0,ce,bM,bT,bZ,bO,bQ,cf,hI⟩
   obtain rfl:=a7 F5
   refine bG hI 0 fy rfl rfl ?_
   exact ⟨aF,aC,aB,aE,aD,aG,az,aK,aQ,aU,ao,ar,aw,aI,aJ,aM,aO,aN,aP,aT,a5,aZ,aY,a4,a7,fun _=>rfl,bX,bW,cb,bY,cd,bL,bV,bU,bP,bN,ca,bS,b0,ce,bM,bT,bZ,bO,bQ,cf,hI⟩
  ·intro D a6 Ga x6 gZ iw hH ik ib ix iA g6 h8 ie ir g5 ic iu ia io g9 hK ig g7 ip iv ij hZ hY hG c8 c7 cP cS cU cO cN cT cQ cR cV cW cA cq cB cC cE cD cz w_
   rintro ⟨aF,aC,aB,aE,aD,aG,az,aK,aQ,aU,ao,ar,aw,aI,aJ,aM,aO,aN,aP,aT,a5,aZ,aY,a4,a7,bR,bX,bW,cb,bY,cd,bL,bV,bU,bP,bN,ca,bS,b0,ce,bM,bT,bZ,bO,bQ,cf,hI⟩
   obtain rfl:=bR Ga
   refine iD dO ?_
   exact ⟨aF,aC,aB,aE,aD,aG,az,aK,aQ,aU,ao,ar,aw,aI,aJ,aM,aO,aN,aP,aT,a5,aZ,aY,a4,a7,bR,fun _=>rfl,bW,cb,bY,cd,bL,bV,bU,bP,bN,ca,bS,b0,ce,bM,bT,bZ,bO,bQ,cf,hI⟩
  ·intro D a6 tX FM x6 gZ iw hH ik ib ix iA g6 h8 ie ir g5 ic iu ia io g9 hK ig g7 ip iv ij hZ hY hG c8 c7 cP cS cU cO cN cT cQ cR cV cW cA cq cB cC cE cD cz w_
   rintro ⟨aF,aC,aB,aE,aD,aG,az,aK,aQ,aU,ao,ar,aw,aI,aJ,aM,aO,aN,aP,aT,a5,aZ,aY,a4,a7,bR,bX,bW,cb,bY,cd,bL,bV,bU,bP,bN,ca,bS,b0,ce,bM,bT,bZ,bO,bQ,cf,hI⟩
   obtain rfl:=aZ tX
   obtain rfl:=bX FM
   refine Am (a:=p * 7+3) (b:=ys.length) (by omega) rfl h0 ?_; rw [<- hd2]
   exact ⟨aF,aC,aB,aE,aD,aG,az,aK,aQ,aU,ao,ar,aw,aI,aJ,aM,aO,aN,aP,aT,a5,aZ,aY,a4,a7,bR,bX,fun _=>rfl,cb,bY,cd,bL,bV,bU,bP,bN,ca,bS,b0,ce,bM,bT,bZ,bO,bQ,cf,hI⟩
  ·intro D a6 pr F6 x6 gZ iw hH ik ib ix iA g6 h8 ie ir g5 ic iu ia io g9 hK ig g7 ip iv ij hZ hY hG c8 c7 cP cS cU cO cN cT cQ cR cV cW cA cq cB cC cE cD cz w_
   rintro ⟨aF,aC,aB,aE,aD,aG,az,aK,aQ,aU,ao,ar,aw,aI,aJ,aM,aO,aN,aP,aT,a5,aZ,aY,a4,a7,bR,bX,bW,cb,bY,cd,bL,bV,bU,bP,bN,ca,bS,b0,ce,bM,bT,bZ,bO,bQ,cf,hI⟩
   obtain rfl:=aP pr
   obtain rfl:=bW F6
   refine bv dO hi2 ?_
   exact ⟨aF,aC,aB,aE,aD,aG,az,aK,aQ,aU,ao,ar,aw,aI,aJ,aM,aO,aN,aP,aT,a5,aZ,aY,a4,a7,bR,bX,bW,fun _=>rfl,bY,cd,bL,bV,bU,bP,bN,ca,bS,b0,ce,bM,bT,bZ,bO,bQ,cf,hI⟩
  ·intro D a6 F7 x6 gZ iw hH ik ib ix iA g6 h8 ie ir g5 ic iu ia io g9 hK ig g7 ip iv ij hZ hY hG c8 c7 cP cS cU cO cN cT cQ cR cV cW cA cq cB cC cE cD cz w_
   rintro ⟨aF,aC,aB,aE,aD,aG,az,aK,aQ,aU,ao,ar,aw,aI,aJ,aM,aO,aN,aP,aT,a5,aZ,aY,a4,a7,bR,bX,bW,cb,bY,cd,bL,bV,bU,bP,bN,ca,bS,b0,ce,bM,bT,bZ,bO,bQ,cf,hI⟩
   obtain rfl:=cb F7
   refine d4 tl ((hI.cellS hS).trans hv2) ?_
   exact ⟨aF,aC,aB,aE,aD,aG,az,aK,aQ,aU,ao,ar,aw,aI,aJ,aM,aO,aN,aP,aT,a5,aZ,aY,a4,a7,bR,bX,bW,cb,fun _=>rfl,cd,bL,bV,bU,bP,bN,ca,bS,b0,ce,bM,bT,bZ,bO,bQ,cf,hI⟩
  ·intro D a6 F3 x6 gZ iw hH ik ib ix iA g6 h8 ie ir g5 ic iu ia io g9 hK ig g7 ip iv ij hZ hY hG c8 c7 cP cS cU cO cN cT cQ cR cV cW cA cq cB cC cE cD cz w_
   rintro ⟨aF,aC,aB,aE,aD,aG,az,aK,aQ,aU,ao,ar,aw,aI,aJ,aM,aO,aN,aP,aT,a5,aZ,aY,a4,a7,bR,bX,bW,cb,bY,cd,bL,bV,bU,bP,bN,ca,bS,b0,ce,bM,bT,bZ,bO,bQ,cf,hI⟩
   obtain rfl:=bY F3
   refine lE fa lT (IntWalk.i64_in _ (by omega)) ?_
   exact ⟨aF,aC,aB,aE,aD,aG,az,aK,aQ,aU,ao,ar,aw,aI,aJ,aM,aO,aN,aP,aT,a5,aZ,aY,a4,a7,bR,bX,bW,cb,bY,fun _=>rfl,bL,bV,bU,bP,bN,ca,bS,b0,ce,bM,bT,bZ,bO,bQ,cf,hI⟩
  ·intro D a6 F8 x6 gZ iw hH ik ib ix iA g6 h8 ie ir g5 ic iu ia io g9 hK ig g7 ip iv ij hZ hY hG c8 c7 cP cS cU cO cN cT cQ cR cV cW cA cq cB cC cE cD cz w_
   rintro ⟨aF,aC,aB,aE,aD,aG,az,aK,aQ,aU,ao,ar,aw,aI,aJ,aM,aO,aN,aP,aT,a5,aZ,aY,a4,a7,bR,bX,bW,cb,bY,cd,bL,bV,bU,bP,bN,ca,bS,b0,ce,bM,bT,bZ,bO,bQ,cf,hI⟩
   obtain rfl:=cd F8
   refine wi (by omega) ?_
   exact ⟨aF,aC,aB,aE,aD,aG,az,aK,aQ,aU,ao,ar,aw,aI,aJ,aM,aO,aN,aP,aT,a5,aZ,aY,a4,a7,bR,bX,bW,cb,bY,cd,fun _=>rfl,bV,bU,bP,bN,ca,bS,b0,ce,bM,bT,bZ,bO,bQ,cf,hI⟩
  ·intro D a6 wB F0 x6 gZ iw hH ik ib ix iA g6 h8 ie ir g5 ic iu ia io g9 hK ig g7 ip iv ij hZ hY hG c8 c7 cP cS cU cO cN cT cQ cR cV cW cA cq cB cC cE cD cz w_
   rintro ⟨aF,aC,aB,aE,aD,aG,az,aK,aQ,aU,ao,ar,aw,aI,aJ,aM,aO,aN,aP,aT,a5,aZ,aY,a4,a7,bR,bX,bW,cb,bY,cd,bL,bV,bU,bP,bN,ca,bS,b0,ce,bM,bT,bZ,bO,bQ,cf,hI⟩
   obtain rfl:=aJ wB
   obtain rfl:=bL F0
   refine ct (by omega) ?_
   exact ⟨aF,aC,aB,aE,aD,aG,az,aK,aQ,aU,ao,ar,aw,aI,aJ,aM,aO,aN,aP,aT,a5,aZ,aY,a4,a7,bR,bX,bW,cb,bY,cd,bL,fun _=>rfl,bU,bP,bN,ca,bS,b0,ce,bM,bT,bZ,bO,bQ,cf,hI⟩
  ·intro D a6  x6 gZ iw hH ik ib ix iA g6 h8 ie ir g5 ic iu ia io g9 hK ig g7 ip iv ij hZ hY hG c8 c7 cP cS cU cO cN cT cQ cR cV cW cA cq cB cC cE cD cz w_
   rintro ⟨aF,aC,aB,aE,aD,aG,az,aK,aQ,aU,ao,ar,aw,aI,aJ,aM,aO,aN,aP,aT,a5,aZ,aY,a4,a7,bR,bX,bW,cb,bY,cd,bL,bV,bU,bP,bN,ca,bS,b0,ce,bM,bT,bZ,bO,bQ,cf,hI⟩
   exact ⟨aF,aC,aB,aE,aD,aG,az,aK,aQ,aU,ao,ar,aw,aI,aJ,aM,aO,aN,aP,aT,a5,aZ,aY,a4,a7,bR,bX,bW,cb,bY,cd,bL,bV,fun _=>rfl,bP,bN,ca,bS,b0,ce,bM,bT,bZ,bO,bQ,cf,hI⟩
  ·intro D a6 Gb x6 gZ iw hH ik ib ix iA g6 h8 ie ir g5 ic iu ia io g9 hK ig g7 ip iv ij hZ hY hG c8 c7 cP cS cU cO cN cT cQ cR cV cW cA cq cB cC cE cD cz w_
   rintro ⟨aF,aC,aB,aE,aD,aG,az,aK,aQ,aU,ao,ar,aw,aI,aJ,aM,aO,aN,aP,aT,a5,aZ,aY,a4,a7,bR,bX,bW,cb,bY,cd,bL,bV,bU,bP,bN,ca,bS,b0,ce,bM,bT,bZ,bO,bQ,cf,hI⟩
   obtain rfl:=bU Gb
   refine wi (by omega) ?_
   exact ⟨aF,aC,aB,aE,aD,aG,az,aK,aQ,aU,ao,ar,aw,aI,aJ,aM,aO,aN,aP,aT,a5,aZ,aY,a4,a7,bR,bX,bW,cb,bY,cd,bL,bV,bU,fun _=>rfl,bN,ca,bS,b0,ce,bM,bT,bZ,bO,bQ,cf,hI⟩
  ·intro D a6 FN Gc x6 gZ iw hH ik ib ix iA g6 h8 ie ir g5 ic iu ia io g9 hK ig g7 ip iv ij hZ hY hG c8 c7 cP cS cU cO cN cT cQ cR cV cW cA cq cB cC cE cD cz w_
   rintro ⟨aF,aC,aB,aE,aD,aG,az,aK,aQ,aU,ao,ar,aw,aI,aJ,aM,aO,aN,aP,aT,a5,aZ,aY,a4,a7,bR,bX,bW,cb,bY,cd,bL,bV,bU,bP,bN,ca,bS,b0,ce,bM,bT,bZ,bO,bQ,cf,hI⟩
   obtain rfl:=bV FN
   obtain rfl:=bP Gc
   refine ct (by omega) ?_
   exact ⟨aF,aC,aB,aE,aD,aG,az,aK,aQ,aU,ao,ar,aw,aI,aJ,aM,aO,aN,aP,aT,a5,aZ,aY,a4,a7,bR,bX,bW,cb,bY,cd,bL,bV,bU,bP,fun _=>rfl,ca,bS,b0,ce,bM,bT,bZ,bO,bQ,cf,hI⟩
  ·intro D a6  x6 gZ iw hH ik ib ix iA g6 h8 ie ir g5 ic iu ia io g9 hK ig g7 ip iv ij hZ hY hG c8 c7 cP cS cU cO cN cT cQ cR cV cW cA cq cB cC cE cD cz w_
   rintro ⟨aF,aC,aB,aE,aD,aG,az,aK,aQ,aU,ao,ar,aw,aI,aJ,aM,aO,aN,aP,aT,a5,aZ,aY,a4,a7,bR,bX,bW,cb,bY,cd,bL,bV,bU,bP,bN,ca,bS,b0,ce,bM,bT,bZ,bO,bQ,cf,hI⟩
   exact ⟨aF,aC,aB,aE,aD,aG,az,aK,aQ,aU,ao,ar,aw,aI,aJ,aM,aO,aN,aP,aT,a5,aZ,aY,a4,a7,bR,bX,bW,cb,bY,cd,bL,bV,bU,bP,bN,fun _=>rfl,bS,b0,ce,bM,bT,bZ,bO,bQ,cf,hI⟩
  ·intro D a6  x6 gZ iw hH ik ib ix iA g6 h8 ie ir g5 ic iu ia io g9 hK ig g7 ip iv ij hZ hY hG c8 c7 cP cS cU cO cN cT cQ cR cV cW cA cq cB cC cE cD cz w_
   rintro ⟨aF,aC,aB,aE,aD,aG,az,aK,aQ,aU,ao,ar,aw,aI,aJ,aM,aO,aN,aP,aT,a5,aZ,aY,a4,a7,bR,bX,bW,cb,bY,cd,bL,bV,bU,bP,bN,ca,bS,b0,ce,bM,bT,bZ,bO,bQ,cf,hI⟩
   exact ⟨aF,aC,aB,aE,aD,aG,az,aK,aQ,aU,ao,ar,aw,aI,aJ,aM,aO,aN,aP,aT,a5,aZ,aY,a4,a7,bR,bX,bW,cb,bY,cd,bL,bV,bU,bP,bN,ca,fun _=>rfl,b0,ce,bM,bT,bZ,bO,bQ,cf,hI⟩
  ·intro D a6 FJ x6 gZ iw hH ik ib ix iA g6 h8 ie ir g5 ic iu ia io g9 hK ig g7 ip iv ij hZ hY hG c8 c7 cP cS cU cO cN cT cQ cR cV cW cA cq cB cC cE cD cz w_
   rintro ⟨aF,aC,aB,aE,aD,aG,az,aK,aQ,aU,ao,ar,aw,aI,aJ,aM,aO,aN,aP,aT,a5,aZ,aY,a4,a7,bR,bX,bW,cb,bY,cd,bL,bV,bU,bP,bN,ca,bS,b0,ce,bM,bT,bZ,bO,bQ,cf,hI⟩
   obtain rfl:=bS FJ
   refine dl ?_
   exact ⟨aF,aC,aB,aE,aD,aG,az,aK,aQ,aU,ao,ar,aw,aI,aJ,aM,aO,aN,aP,aT,a5,aZ,aY,a4,a7,bR,bX,bW,cb,bY,cd,bL,bV,bU,bP,bN,ca,bS,fun _=>rfl,ce,bM,bT,bZ,bO,bQ,cf,hI⟩
  ·intro D a6 FY x6 gZ iw hH ik ib ix iA g6 h8 ie ir g5 ic iu ia io g9 hK ig g7 ip iv ij hZ hY hG c8 c7 cP cS cU cO cN cT cQ cR cV cW cA cq cB cC cE cD cz w_
   rintro ⟨aF,aC,aB,aE,aD,aG,az,aK,aQ,aU,ao,ar,aw,aI,aJ,aM,aO,aN,aP,aT,a5,aZ,aY,a4,a7,bR,bX,bW,cb,bY,cd,bL,bV,bU,bP,bN,ca,bS,b0,ce,bM,bT,bZ,bO,bQ,cf,hI⟩
   obtain rfl:=b0 FY
   refine bh ex ?_
   exact ⟨aF,aC,aB,aE,aD,aG,az,aK,aQ,aU,ao,ar,aw,aI,aJ,aM,aO,aN,aP,aT,a5,aZ,aY,a4,a7,bR,bX,bW,cb,bY,cd,bL,bV,bU,bP,bN,ca,bS,b0,fun _=>rfl,bM,bT,bZ,bO,bQ,cf,hI⟩
  ·intro D a6 FO x6 gZ iw hH ik ib ix iA g6 h8 ie ir g5 ic iu ia io g9 hK ig g7 ip iv ij hZ hY hG c8 c7 cP cS cU cO cN cT cQ cR cV cW cA cq cB cC cE cD cz w_
   rintro ⟨aF,aC,aB,aE,aD,aG,az,aK,aQ,aU,ao,ar,aw,aI,aJ,aM,aO,aN,aP,aT,a5,aZ,aY,a4,a7,bR,bX,bW,cb,bY,cd,bL,bV,bU,bP,bN,ca,bS,b0,ce,bM,bT,bZ,bO,bQ,cf,hI⟩
   obtain rfl:=ce FO
   refine bG hI 0 fy rfl rfl ?_
   exact ⟨aF,aC,aB,aE,aD,aG,az,aK,aQ,aU,ao,ar,aw,aI,aJ,aM,aO,aN,aP,aT,a5,aZ,aY,a4,a7,bR,bX,bW,cb,bY,cd,bL,bV,bU,bP,bN,ca,bS,b0,ce,fun _=>rfl,bT,bZ,bO,bQ,cf,hI⟩
  ·intro D a6 FK x6 gZ iw hH ik ib ix iA g6 h8 ie ir g5 ic iu ia io g9 hK ig g7 ip iv ij hZ hY hG c8 c7 cP cS cU cO cN cT cQ cR cV cW cA cq cB cC cE cD cz w_
   rintro ⟨aF,aC,aB,aE,aD,aG,az,aK,aQ,aU,ao,ar,aw,aI,aJ,aM,aO,aN,aP,aT,a5,aZ,aY,a4,a7,bR,bX,bW,cb,bY,cd,bL,bV,bU,bP,bN,ca,bS,b0,ce,bM,bT,bZ,bO,bQ,cf,hI⟩
   obtain rfl:=bM FK
   refine iD dO ?_
   exact ⟨aF,aC,aB,aE,aD,aG,az,aK,aQ,aU,ao,ar,aw,aI,aJ,aM,aO,aN,aP,aT,a5,aZ,aY,a4,a7,bR,bX,bW,cb,bY,cd,bL,bV,bU,bP,bN,ca,bS,b0,ce,bM,fun _=>rfl,bZ,bO,bQ,cf,hI⟩
  ·intro D a6 FV FW x6 gZ iw hH ik ib ix iA g6 h8 ie ir g5 ic iu ia io g9 hK ig g7 ip iv ij hZ hY hG c8 c7 cP cS cU cO cN cT cQ cR cV cW cA cq cB cC cE cD cz w_
   rintro ⟨aF,aC,aB,aE,aD,aG,az,aK,aQ,aU,ao,ar,aw,aI,aJ,aM,aO,aN,aP,aT,a5,aZ,aY,a4,a7,bR,bX,bW,cb,bY,cd,bL,bV,bU,bP,bN,ca,bS,b0,ce,bM,bT,bZ,bO,bQ,cf,hI⟩
   obtain rfl:=ca FV
   obtain rfl:=bT FW
   refine Bq (a:=p) (b:=ys.length) rfl rfl h0 (by omega) ?_; rw [<- hdq]
   exact ⟨aF,aC,aB,aE,aD,aG,az,aK,aQ,aU,ao,ar,aw,aI,aJ,aM,aO,aN,aP,aT,a5,aZ,aY,a4,a7,bR,bX,bW,cb,bY,cd,bL,bV,bU,bP,bN,ca,bS,b0,ce,bM,bT,fun _=>rfl,bO,bQ,cf,hI⟩
  ·intro D a6 Ge x6 gZ iw hH ik ib ix iA g6 h8 ie ir g5 ic iu ia io g9 hK ig g7 ip iv ij hZ hY hG c8 c7 cP cS cU cO cN cT cQ cR cV cW cA cq cB cC cE cD cz w_
   rintro ⟨aF,aC,aB,aE,aD,aG,az,aK,aQ,aU,ao,ar,aw,aI,aJ,aM,aO,aN,aP,aT,a5,aZ,aY,a4,a7,bR,bX,bW,cb,bY,cd,bL,bV,bU,bP,bN,ca,bS,b0,ce,bM,bT,bZ,bO,bQ,cf,hI⟩
   obtain rfl:=bZ Ge
   refine wi (by omega) ?_
   exact ⟨aF,aC,aB,aE,aD,aG,az,aK,aQ,aU,ao,ar,aw,aI,aJ,aM,aO,aN,aP,aT,a5,aZ,aY,a4,a7,bR,bX,bW,cb,bY,cd,bL,bV,bU,bP,bN,ca,bS,b0,ce,bM,bT,bZ,fun _=>rfl,bQ,cf,hI⟩
  ·intro D a6 FP FF x6 gZ iw hH ik ib ix iA g6 h8 ie ir g5 ic iu ia io g9 hK ig g7 ip iv ij hZ hY hG c8 c7 cP cS cU cO cN cT cQ cR cV cW cA cq cB cC cE cD cz w_
   rintro ⟨aF,aC,aB,aE,aD,aG,az,aK,aQ,aU,ao,ar,aw,aI,aJ,aM,aO,aN,aP,aT,a5,aZ,aY,a4,a7,bR,bX,bW,cb,bY,cd,bL,bV,bU,bP,bN,ca,bS,b0,ce,bM,bT,bZ,bO,bQ,cf,hI⟩
   obtain rfl:=bN FP
   obtain rfl:=bO FF
   refine ct (by omega) ?_
   exact ⟨aF,aC,aB,aE,aD,aG,az,aK,aQ,aU,ao,ar,aw,aI,aJ,aM,aO,aN,aP,aT,a5,aZ,aY,a4,a7,bR,bX,bW,cb,bY,cd,bL,bV,bU,bP,bN,ca,bS,b0,ce,bM,bT,bZ,bO,fun _=>rfl,cf,hI⟩
  ·intro D a6 FZ HD Hx HC Hy Ht Hu HA Hw Hv Hs GE Hj Gu Gt G3 GJ Gn He Gj GQ GP GY GX Hd Gq G7 G2 Hk Gl Hb Hc Gy Gi GA Hh GB Gv Gx GD G0 GN Gg Gz Gh GK x6 gZ iw hH ik ib ix iA g6 h8 ie ir g5 ic iu ia io g9 hK ig g7 ip iv ij hZ hY hG c8 c7 cP cS cU cO cN cT cQ cR cV cW cA cq cB cC cE cD cz w_
   rintro ⟨aF,aC,aB,aE,aD,aG,az,aK,aQ,aU,ao,ar,aw,aI,aJ,aM,aO,aN,aP,aT,a5,aZ,aY,a4,a7,bR,bX,bW,cb,bY,cd,bL,bV,bU,bP,bN,ca,bS,b0,ce,bM,bT,bZ,bO,bQ,cf,hI⟩
   obtain rfl:=bQ FZ
   exact ⟨aF,aC,aB,aE,aD,aG,az,aK,aQ,aU,ao,ar,aw,aI,aJ,aM,aO,aN,aP,aT,a5,aZ,aY,a4,a7,bR,bX,bW,cb,bY,cd,bL,bV,bU,bP,bN,ca,bS,b0,ce,bM,bT,bZ,bO,bQ,fun _=>rfl,hI⟩
  intro D GV Ha Gw Hg GU Hm Gr GG G5 Gm GM G6 GF G1 Hf Hi Gk GL GW Hl GC Al Au AW AE Bo xU sV ui tv uC qB si ky gw fK kA iV ii gM gT hO iR im iT iS x6 gZ iw hH ik ib ix iA g6 h8 ie ir g5 ic iu ia io g9 hK ig g7 ip iv ij hZ hY hG c8 c7 cP cS cU cO cN cT cQ cR cV cW cA cq cB cC cE cD cz w_
  rintro ⟨aF,aC,aB,aE,aD,aG,az,aK,aQ,aU,ao,ar,aw,aI,aJ,aM,aO,aN,aP,aT,a5,aZ,aY,a4,a7,bR,bX,bW,cb,bY,cd,bL,bV,bU,bP,bN,ca,bS,b0,ce,bM,bT,bZ,bO,bQ,cf,hI⟩
  obtain rfl:=cf GV
  obtain rfl:=bQ Ha
  obtain rfl:=bO Gw
  obtain rfl:=bZ Hg
  obtain rfl:=bT GU
  obtain rfl:=bM Hm
  obtain rfl:=ce Gr
  obtain rfl:=b0 GG
  obtain rfl:=bS G5
  obtain rfl:=ca Gm
  obtain rfl:=bN GM
  obtain rfl:=bP G6
  obtain rfl:=bU GF
  obtain rfl:=bV G1
  obtain rfl:=bL Hf
  obtain rfl:=cd Hi
  obtain rfl:=bY Gk
  obtain rfl:=cb GL
  obtain rfl:=bW GW
  obtain rfl:=bX Hl
  obtain rfl:=bR GC
  obtain rfl:=a7 Al
  obtain rfl:=a4 Au
  obtain rfl:=aY AW
  obtain rfl:=aZ AE
  obtain rfl:=a5 Bo
  obtain rfl:=aT xU
  obtain rfl:=aP sV
  obtain rfl:=aN ui
  obtain rfl:=aO tv
  obtain rfl:=aM uC
  obtain rfl:=aJ qB
  obtain rfl:=aI si
  obtain rfl:=aw ky
  obtain rfl:=ar gw
  obtain rfl:=ao fK
  obtain rfl:=aU kA
  obtain rfl:=aQ iV
  obtain rfl:=aK ii
  obtain rfl:=az gM
  obtain rfl:=aG gT
  obtain rfl:=aD hO
  obtain rfl:=aE iR
  obtain rfl:=aB im
  obtain rfl:=aC iT
  obtain rfl:=aF iS
  clear aF aC aB aE aD aG az aK aQ aU ao ar aw aI aJ aM aO aN aP aT a5 aZ aY a4 a7 bR bX bW cb bY cd bL bV bU bP bN ca bS b0 ce bM bT bZ bO bQ cf
  obtain ⟨x,hx⟩:∃ x:Nat,((((((y1:Nat):Int) * 131)+(((y2:Nat):Int) * 1117))+((p:Int) * 29))+(((q:Nat):Int) * 53))=(x:Int):=⟨(((((((y1:Nat):Int) * 131)+(((y2:Nat):Int) * 1117))+((p:Int) * 29))+(((q:Nat):Int) * 53))).toNat,by omega⟩
  have hx2:x<=10000000000000000:=by omega
  rw [hx]
  refine Bq (a:=x) (b:=64) rfl rfl (by omega) (by omega) ?_
  refine Fb (a:=x) (b:=x / 64) rfl rfl (by omega) (by omega) ?_
  refine AZ hn ?_
  exact ⟨_,_,_,rfl,hI,Ext.refl _ _ _,rfl,rfl,_,Nat.mod_lt _ hn,rfl⟩
theorem jI {ys:List Nat} {ns:List Int} {S:ax} {sl v:Value} {br p:Nat} (h:RdSl S 1 jA sl ys) (hv:RdSl S 1 oH v ns) (h0:0<ns.length) (hp:p<=1000000000000) :
  Tri Tryz.prog vr [rdP br,v] [rdI br sl p] S fun r I' S'=>S'=S/\I'=[rdI br sl (p+1)]/\∃ n∈ns,r=.int .i64 n:=by
 intro w hI
 refine ow ?_
 unfold lm
 refine bo hv iZ ?_
 refine Run.call (A:=[]) ch ci hI (dz h hp h0) fun v' I' S' w'=>?_
 rintro ⟨rfl,rfl,k,hk,rfl⟩ _ hI
 obtain ⟨b,o,cap,c,E,fz,rfl,hS,hR⟩:=hv.at_ hk
 refine bv iZ hk ?_
 refine d4 bw ((hI.cellS hS).trans (bC hR 0 _ rfl)) ?_
 exact ⟨_,_,_,rfl,hI,Ext.refl _ _ _,rfl,rfl,_,List.getElem_mem hk,rfl⟩
theorem jH {ys:List Nat} {ns:List ByteArray} {S:ax} {sl v:Value} {br p:Nat} (h:RdSl S 1 jA sl ys) (hv:RdSl S 1 pH v ns) (h0:0<ns.length) (hp:p<=1000000000000) :
  Tri Tryz.prog wW [rdP br,v] [rdI br sl p] S fun r I' S'=>S'=S/\I'=[rdI br sl (p+1)]/\∃ n∈ns,r=.string n:=by
 intro w hI
 refine qc ?_
 unfold mB
 refine bo hv cJ ?_
 refine Run.call (A:=[]) ch ci hI (dz h hp h0) fun v' I' S' w'=>?_
 rintro ⟨rfl,rfl,k,hk,rfl⟩ _ hI
 obtain ⟨b,o,cap,c,E,fz,rfl,hS,hR⟩:=hv.at_ hk
 refine bv cJ hk ?_
 refine d4 bq ((hI.cellS hS).trans (bC hR 0 _ rfl)) ?_
 exact ⟨_,_,_,rfl,hI,Ext.refl _ _ _,rfl,rfl,_,List.getElem_mem hk,rfl⟩
theorem Ae {ys:List Nat} {S:ax} {v:Value} (h:RdSl S 1 jA v ys) :
  Tri Tryz.prog zv [v] [] S fun r I' S'=>S'=S/\∃ br sl ys',r=rdP br/\I'=[rdI br sl 0]/\RdSl S 1 jA sl ys':=by
 intro w hI
 refine rZ ?_
 unfold oI
 refine ⟨fun t w'=>(∃ ys',RdSl S 1 jA t ys')/\Inv w [] [] S w',?_,?_⟩
 ·refine bo h dO ?_
  refine eN ?_
  refine bz (fun hgt=>?_) (fun _=>⟨⟨_,h⟩,hI⟩)
  obtain ⟨a,cap,rfl,hl,hc,hh⟩:=id h
  refine Fi (h:=2000) dO (by omega) ?_
  exact ⟨⟨_,RdSl.to h (by omega)⟩,hI⟩
 intro t0 _ _ _ _ _ w'
 rintro ⟨⟨ys',hr⟩,hI⟩
 obtain ⟨a,cap,rfl,_⟩:=id hr
 refine Run.of (v:=.agg #[.slice a ys'.length cap,.int .i64 0]) (w':=w') ?_ ?_
 ·unfold cg
  rw [Sem.run_bind,run_build w' yo _ #[.slice a ys'.length cap,.int .i64 0] (by kernel_rfl),Result.andThen_ok]
  rfl
 refine co hI fun br w' hI=>?_
 exact ⟨_,_,_,rfl,hI,Ext.refl _ _ _,rfl,br,_,ys',rfl,rfl,hr⟩
end
end Go.Proofs.YtmnnpgdeecnfpaaGreat
