/- Texts read: spec.l1Struct, l1Chain, l2Read, l2Prime, l2Terms, l2Items. (printed by gen_read.py) -/
import Derived.Test.YtemmhhdnlbmicaaGreatZMa3
import Derived.Test.YtemmhhdnlbmicaaGreatZMa2
namespace Go.Proofs.YtemmhhdnlbmicaaGreat
open Go Go.RowKit
theorem OD {s:Bs} {i e:Nat} {t:T} (hn:Oh s i=some (t,e)):i<e/\e<=s.length:=by
 unfold Oh at hn
 obtain ⟨fr,hfr⟩:∃ fr,fr=if sgn s i 45=true then i+1 else i:=⟨_,rfl⟩
 simp only [<- hfr] at hn
 have hle:=FS s 4 fr
 have hfi:i<=fr/\fr<=i+1:=by rw [hfr]; split <;> omega
 split at hn
 ·cases hn
 rename_i hc
 simp only [not_or] at hc
 simp only [Option.some.injEq,Prod.mk.injEq] at hn
 obtain ⟨_,rfl⟩:=hn
 have h2:fr<qB s 4 fr:=by
  rcases Nat.lt_or_ge fr (qB s 4 fr) with h|h
  ·exact h
  ·refine absurd ?_ hc.1
   rw [cut,List.drop_eq_nil_of_le]
   rw [List.length_take]
   omega
 have:=zA (uk s 4 fr (qB s 4 fr - 1) (by omega) (by omega))
 omega
theorem gZ:∀ f:Nat,(∀ s i d l t n,ja f s i d l=some (t,n)->i<n/\n<=s.length)/\(∀ s i d l t0 t n,Id f s i d l t0=some (t,n)->i<=s.length->i<=n/\n<=s.length)/\
  (∀ s i d t n,rI f s i d=some (t,n)->i<n/\n<=s.length)/\(∀ s i d e o acc ts n,hH f s i d e o acc=some (ts,n)->i<n/\n<s.length)
 | 0=>⟨fun s i d l t n h=>by simp [ja] at h,fun s i d l t0 t n h=>by simp [Id] at h,fun s i d t n h=>by simp [rI] at h,fun s i d e o acc ts n h=>by simp [hH] at h⟩
 | f+1=>by
  obtain ⟨h1,h2,h3,h4⟩:=gZ f
  refine ⟨fun s i d l t n h=>?_,fun s i d l t0 t n h hi=>?_,fun s i d t n h=>?_,fun s i d e o acc ts n h=>?_⟩
  ·cases l with
   | zero=>rw [ja] at h; exact h3 _ _ _ _ _ h
   | succ l=>
    rw [ja] at h
    split at h
    ·cases h
    ·rename_i t' n' hr
     have a:=h1 _ _ _ _ _ _ hr
     have b:=h2 _ _ _ _ _ _ _ h a.2
     omega
  ·rw [Id] at h
   split at h
   ·simp only [Option.some.injEq,Prod.mk.injEq] at h
    omega
   ·rename_i name after ho
    have a:=Nt ho
    split at h
    ·split at h
     ·cases h
     ·rename_i r e hr
      have b:=h1 _ _ _ _ _ _ hr
      split at h
      ·simp only [Option.some.injEq,Prod.mk.injEq] at h
       omega
      ·have c:=h2 _ _ _ _ _ _ _ h b.2
       omega
    ·simp only [Option.some.injEq,Prod.mk.injEq] at h
     omega
  ·rw [rI] at h
   split at h
   ·cases h
   rename_i h0
   have h0:i<s.length:=by omega
   split at h
   ·split at h
    ·cases h
    ·rename_i t' n' hr
     have a:=h1 _ _ _ _ _ _ hr
     split at h
     ·rename_i hs
      have:=hO hs
      simp only [Option.some.injEq,Prod.mk.injEq] at h
      omega
     ·cases h
   ·split at h
    ·split at h
     ·cases h
     ·rename_i ts n' hr
      have a:=h4 _ _ _ _ _ _ _ _ hr
      split at h
      ·simp only [Option.some.injEq,Prod.mk.injEq] at h
       omega
      ·split at h
       ·cases h
       ·rename_i t' e hr2
        have b:=h1 _ _ _ _ _ _ hr2
        split at h
        ·rename_i hs
         have:=hO hs
         simp only [Option.some.injEq,Prod.mk.injEq] at h
         omega
        ·cases h
    ·split at h
     ·simp only [Option.some.injEq,Prod.mk.injEq] at h
      omega
     ·split at h
      ·exact OD h
      ·split at h
       ·cases h
       ·rename_i name n' hn
        have a:=uH h0 hn
        split at h
        ·simp only [Option.some.injEq,Prod.mk.injEq] at h
         omega
        ·split at h
         ·cases h
         ·rename_i ts e hr
          have b:=h4 _ _ _ _ _ _ _ _ hr
          simp only [Option.some.injEq,Prod.mk.injEq] at h
          omega
  ·rw [hH] at h
   split at h
   ·cases h
   ·rename_i t' n' hr
    have a:=h1 _ _ _ _ _ _ hr
    split at h
    ·rename_i hs
     have hlt:n'<s.length:=hs.elim hO hO
     simp only [Option.some.injEq,Prod.mk.injEq] at h
     omega
    ·split at h
     ·have b:=h4 _ _ _ _ _ _ _ _ h
      omega
     ·cases h
abbrev P2 (t:T):Value->List Item->aF->Prop:=fun v I' S'=>I'=[]/\∃ cs,v=.agg cs.toArray/\RdT S' cs t
abbrev M6 (t:T) (n:Nat):Value->List Item->aF->Prop:=fun v I' S'=>I'=[]/\∃ cs,v=.tuple #[.agg cs.toArray,.int .i64 (n:Int)]/\RdT S' cs t
abbrev O3 (ts:List T) (n:Nat):Value->List Item->aF->Prop:=fun v I' S'=>I'=[]/\∃ u,v=.tuple #[u,.int .i64 (n:Int)]/\RdSl S' 4 (RdT S') u ts
theorem jO (S:aF):RdSl S 4 (RdT S) (.slice none 0 0) []:=⟨none,0,rfl,Nat.le_refl _,Nat.zero_le _,.inl rfl⟩
theorem Ky {S:aF} {b:Nat} {E:TypeId} {a c:T} {k1 n1 k2 n2:Int} {s1 s2:ByteArray} {v1 v2:Value} (hS:S b=some (.cells #[.int .i64 k1,.int .i64 n1,.string s1,v1,.int .i64 k2,.int .i64 n2,.string s2,v2] E))
  (h1:RdT S [.int .i64 k1,.int .i64 n1,.string s1,v1] a) (h2:RdT S [.int .i64 k2,.int .i64 n2,.string s2,v2] c):RdSl S 4 (RdT S) (.slice (some ⟨b,0,none⟩) 2 2) [a,c]:=by
 refine ⟨_,2,rfl,Nat.le_refl _,by simp [maxLen],.inr ⟨b,0,_,E,(0,0),rfl,hS,fun i hi=>?_⟩⟩
 match i,hi with
 | 0,_=>exact h1
 | 1,_=>exact h2
section
variable {w w0:World} {X:List Nat} {L:List Item} {S:aF} {K:Value->World->Prop}
attribute [local irreducible] Run CondV ag be
theorem fu {P:Program} {T:TypeId} {cx cy:Bool} {x y:Int} {a b:Nat} (hx:x=a) (hy:y=b) (hr:a+b<=1000000000000000) (hk:K (.int .i64 ((a+b:Nat):Int)) w):Run P (aq .add T cx cy (.int .i64 x) (.int .i64 y)) w K:=by
 subst hx hy
 refine bP (by omega) ?_
 rw [<- Int.natCast_add]
 exact hk
theorem zy {P:Program} {T:TypeId} {cx cy:Bool} {x y:Int} {a b:Nat} (hx:x=a) (hy:y=b) (hle:b<=a) (hr:a<=1000000000000000) (hk:K (.int .i64 ((a - b:Nat):Int)) w):Run P (aq .sub T cx cy (.int .i64 x) (.int .i64 y)) w K:=by
 subst hx hy
 refine om (by omega) ?_
 rw [<- Int.ofNat_sub hle]
 exact hk
theorem rh {s:ByteArray} {v:Value} (hv:∃ p n m,v=.slice p n m) (hk:K (.agg #[.int .i64 3,.int .i64 0,.string s,v]) w):Run Tryz.prog (dN ac [(0,.int .i64 3),(2,.string s),(3,v)]) w K:=by
 obtain ⟨p,n,m,rfl⟩:=hv
 refine Run.of (v:=.agg #[.int .i64 3,.int .i64 0,.string s,.slice p n m]) (w':=w) ?_ hk
 unfold dN
 rw [Sem.run_bind,run_build w ac _ #[.int .i64 3,.int .i64 0,.string s,.slice p n m] (by kernel_rfl),Result.andThen_ok]
 rfl
theorem tu (s:ByteArray) {ks:List T} {u:Value} (h:RdSl S 4 (RdT S) u ks) (hk:ks.length<=1000000):Tri Tryz.prog uI [.string s,u] [] S fun v I' S'=>S'=S/\∃ kv css,v=.agg #[.int .i64 3,.int .i64 0,.string s,kv]/\I'=[bj kv ac 4 css]/\Rows 4 (RdT S) css ks:=by
 intro w hI
 refine vg ?_
 unfold rr
 refine bH hI bN fun b4 w' hI=>?_
 refine fk hI bM fun v0 w' hI=>?_
 have hI:Inv w [] [.blk b4 (.cells #[.int .i64 0,.int .i64 0,.string ⟨#[]⟩,.slice none 0 0] ac),bj v0 ac 4 []] S w':=hI
 refine kr hI 1 (css:=[]) bM (by omega) rfl h (fun _ _=>RdT.length) (fun _ _=>RdT.one) (by simp; omega) (by omega) fun v' w' css2 hR hI=>?_
 have hI:Inv w [] [.blk b4 (.cells #[.int .i64 0,.int .i64 0,.string ⟨#[]⟩,.slice none 0 0] ac),bj v' ac 4 css2] S w':=hI
 obtain ⟨a,n,c,rfl⟩:=hI.rowSlice 1 rfl
 refine rh ⟨_,_,_,rfl⟩ ?_
 refine bf hI 0 rfl al rfl rfl (by simp [Value.oneCell']) fun w' hI=>?_
 refine cH hI 0 al rfl rfl ?_
 exact ⟨_,_,_,rfl,hI.sub (List.sublist_cons_self _ _),Ext.refl _ _ _,rfl,_,css2,rfl,rfl,hR⟩
theorem eG (s:ByteArray) (hs:s.size<=maxLen) {ks:List T} {u:Value} (h:RdSl S 4 (RdT S) u ks) (hk:ks.length<=1000000):Tri Tryz.prog uI [.string s,u] [] S (P2 (.mk 3 0 s ks)):=by
 intro w hI
 refine (tu s h hk w hI).mono ?_
 rintro e w' ⟨v,I',S',rfl,hI,hE,rfl,kv,css,rfl,rfl,hR⟩
 obtain ⟨S1,hE1,hrd,hI⟩:=Inv.lendExt (A:=[]) hI
 have hrs:=RowRd.rows (hR.monoR fun _ _ h=>RdT.mono hE1.1 h) hrd
 exact ⟨_,[],S1,rfl,hI,hE.trans hE1,rfl,[.int .i64 3,.int .i64 0,.string s,kv],rfl,RdT.iff.2 ⟨kv,rfl,by simp [inI,T.kind],by simp [inI,T.n],hs,hrs⟩⟩
theorem J0 {ts:List T} {j:Nat} (h:j<ts.length) (t:T):iA (ts.drop j) t=HF ts[j] (iA (ts.drop (j+1)) t):=by
 rw [List.drop_eq_getElem_cons h,iA]
theorem qY {ts:List T} {t:T} {u:Value} {cs:List Value} (h:RdSl S 4 (RdT S) u ts) (ht:RdT S cs t) (hl:ts.length<=1000000):Tri Tryz.prog G9 [u,.agg cs.toArray] [] S (P2 (iA ts t)):=by
 intro w hI
 obtain ⟨kv,rfl,g1,g2,g3,g4⟩:=RdT.iff.1 ht
 obtain ⟨ka,kn,kc,hkv⟩:∃ a n m,kv=.slice a n m:=by
  obtain ⟨a,m,e,_⟩:=g4
  exact ⟨_,_,_,e⟩
 refine yD ?_
 unfold uO
 refine bO hI fun b3 w' hI=>?_
 refine bH hI bN fun b4 w' hI=>?_
 refine bb hI 0 al rfl rfl ?_
 refine bH hI bN fun b5 w' hI=>?_
 refine bf hI 2 rfl al rfl rfl (by simp [Value.oneCell',Value.cells,hkv]) fun w' hI=>?_
 refine a9 h av ?_
 refine om (by omega) ?_
 obtain ⟨B3,hB3⟩:∃ B3,B3=Item.blk b3 (.cells #[.int .i64 t.kind,.int .i64 t.n,.string t.name,kv] ac):=⟨_,rfl⟩
 have hI:Inv w [] [B3,.blk b4 (.cells #[.int .i64 0,.int .i64 0,.string ⟨#[]⟩,.slice none 0 0] ac),.blk b5 (.cells #[.int .i64 t.kind,.int .i64 t.n,.string t.name,kv] ac)] S w':=by rw [hB3]; exact hI
 refine ⟨fun i w'=>∃ (j:Nat) (S1:aF) (ds:List Value),j<=ts.length/\i=.int .i64 ((j:Int) - 1)/\Ext w.heap.size [] S S1/\RdT S1 ds (iA (ts.drop j) t)/\Inv w [] [B3,.blk b4 (.cells #[.int .i64 0,.int .i64 0,.string ⟨#[]⟩,.slice none 0 0] ac),.blk b5 (.cells ds.toArray ac)] S1 w',
  fun i _=>(intOf i+1).toNat,⟨ts.length,S,_,Nat.le_refl _,rfl,Ext.refl _ _ _,by rw [List.drop_length]; exact ht,hI⟩,?_⟩
 intro t6 _ _ t21 t20 t19 t18 t17 t16 t15 _ _ w'
 rintro ⟨j,S1,ds,hj,rfl,hE,hds,hI⟩
 by_cases hj0:j=0
 ·subst hj0
  refine rH (by omega) ?_
  refine ba (fun hb=>by cases hb) (fun _=>?_)
  obtain ⟨kv',rfl,_,_,_,a,m,rfl,_⟩:=RdT.iff.1 hds
  refine bb hI 2 al rfl rfl ?_
  refine bf hI 1 rfl al rfl rfl (by simp [Value.oneCell']) fun w' hI=>?_
  refine cH hI 1 al rfl rfl ?_
  exact ⟨_,_,_,rfl,hI.nil,hE,rfl,_,rfl,hds⟩
 ·refine l4 (by omega) ?_
  refine ba (fun _=>?_) (fun hb=>by cases hb)
  obtain ⟨m,rfl⟩:∃ m,j=m+1:=⟨j - 1,by omega⟩
  have hm:m<ts.length:=by omega
  have ej:((m+1:Nat):Int) - 1=(m:Int):=by omega
  rw [ej]
  obtain ⟨b,o,cap,c,E,fz,rfl,hS,hR⟩:=(h.monoT hE.1).at_ hm
  obtain ⟨ka',hca,_,_,_,aa,am,hka',_⟩:=RdT.iff.1 hR
  subst hka'
  obtain ⟨kd,rfl,_,_,_,da,dm,rfl,_⟩:=RdT.iff.1 hds
  obtain ⟨o1,ho1⟩:∃ o1,o1=iA (ts.drop (m+1)) t:=⟨_,rfl⟩
  rw [<- ho1] at hds hI
  obtain ⟨a1,ha1⟩:∃ a1,a1=ts[m]:=⟨_,rfl⟩
  rw [<- ha1] at hR hca
  skip
  refine ⟨fun D cF cd bZ dz dr dC ey w_=>(D 0=true->ey=.slice (some ⟨b,o,none⟩) ts.length cap)/\(D 1=true->dC=.int .i64 (m:Int))/\(D 2=true->dr=.pointer (some ⟨b,o+m * 4,none⟩))/\(D 3=true->dz=.agg #[.int .i64 a1.kind,.int .i64 a1.n,.string a1.name,.slice aa a1.kids.length am])/\(D 4=true->bZ=.agg #[.int .i64 o1.kind,.int .i64 o1.n,.string o1.name,.slice da o1.kids.length dm])/\(D 5=true->True)/\(D 6=true->True)/\(D 7=true->True)/\∃ S2 c6,Ext w.heap.size [] S1 S2/\(D 5=true->RdSl S2 4 (RdT S2) cd [a1,o1])/\(D 6=true->cF=.agg c6.toArray/\RdT S2 c6 (HF a1 o1))/\(D 7=true->D 6=true)/\(D 6=true->D 5=true)/\(D 5=true->D 4=true)/\Inv w [] [B3,.blk b4 (.cells #[.int .i64 0,.int .i64 0,.string ⟨#[]⟩,.slice none 0 0] ac),.blk b5 (.cells (match D 7 with|true=>c6.toArray|false=>#[.int .i64 o1.kind,.int .i64 o1.n,.string o1.name,.slice da o1.kids.length dm]) ac)] S2 w_,⟨ae,ae,ae,ae,ae,ae,ae,ae,⟨S1,[],Ext.refl _ _ _,ae,ae,ae,ae,ae,hI.draw⟩⟩,⟨?_,?_,?_,?_,?_,?_,?_,?_,trivial⟩,?_⟩
  ·intro D aY  cF cd bZ dz dr dC ey w_
   rintro ⟨az,ay,aA,aB,aw,aD,aE,aI,⟨S2,c6,hE2,e5,e6,k7,k6,k5,hI⟩⟩
   exact ⟨fun _=>rfl,ay,aA,aB,aw,aD,aE,aI,⟨S2,c6,hE2,e5,e6,k7,k6,k5,hI⟩⟩
  ·intro D aY  cF cd bZ dz dr dC ey w_
   rintro ⟨az,ay,aA,aB,aw,aD,aE,aI,⟨S2,c6,hE2,e5,e6,k7,k6,k5,hI⟩⟩
   exact ⟨az,fun _=>rfl,aA,aB,aw,aD,aE,aI,⟨S2,c6,hE2,e5,e6,k7,k6,k5,hI⟩⟩
  ·intro D aY ce iL cF cd bZ dz dr dC ey w_
   rintro ⟨az,ay,aA,aB,aw,aD,aE,aI,⟨S2,c6,hE2,e5,e6,k7,k6,k5,hI⟩⟩
   obtain rfl:=az ce
   obtain rfl:=ay iL
   refine bh av hm ?_
   exact ⟨az,ay,fun _=>rfl,aB,aw,aD,aE,aI,⟨S2,c6,hE2,e5,e6,k7,k6,k5,hI⟩⟩
  ·intro D aY ev cF cd bZ dz dr dC ey w_
   rintro ⟨az,ay,aA,aB,aw,aD,aE,aI,⟨S2,c6,hE2,e5,e6,k7,k6,k5,hI⟩⟩
   obtain rfl:=aA ev
   refine cJ (cs:=[.int .i64 a1.kind,.int .i64 a1.n,.string a1.name,.slice aa a1.kids.length am]) al rfl (fun j v hj=>by rw [hI.cellS (hE2.1 _ _ hS)]; exact bl hca j v hj) ?_
   exact ⟨az,ay,aA,fun _=>rfl,aw,aD,aE,aI,⟨S2,c6,hE2,e5,e6,k7,k6,k5,hI⟩⟩
  ·intro D aY  cF cd bZ dz dr dC ey w_
   rintro ⟨az,ay,aA,aB,aw,aD,aE,aI,⟨S2,c6,hE2,e5,e6,k7,k6,k5,hI⟩⟩
   have f5:D 5=false:=Bool.eq_false_iff.2 fun h=>by rw [k5 h] at aY; cases aY
   have f6:D 6=false:=Bool.eq_false_iff.2 fun h=>by rw [k6 h] at f5; cases f5
   have f7:D 7=false:=Bool.eq_false_iff.2 fun h=>by rw [k7 h] at f6; cases f6
   have hI0:=hI
   rw [f7] at hI
   refine bb hI 2 al rfl rfl ?_
   have hI:=hI0
   have k5:=fun (_:aC D 4 5=true)=>(rfl:aC D 4 4=true)
   exact ⟨az,ay,aA,aB,fun _=>rfl,aD,aE,aI,⟨S2,c6,hE2,e5,e6,k7,k6,k5,hI⟩⟩
  ·intro D aY dF dS cF cd bZ dz dr dC ey w_
   rintro ⟨az,ay,aA,aB,aw,aD,aE,aI,⟨S2,c6,hE2,e5,e6,k7,k6,k5,hI⟩⟩
   obtain rfl:=aB dF
   obtain rfl:=aw dS
   have f6:D 6=false:=Bool.eq_false_iff.2 fun h=>by rw [k6 h] at aY; cases aY
   have f7:D 7=false:=Bool.eq_false_iff.2 fun h=>by rw [k7 h] at f6; cases f6
   rw [f7] at hI
   refine sz (v:=fun b=>.slice (some ⟨b,0,none⟩) 2 2) (o:=.cells #[.int .i64 a1.kind,.int .i64 a1.n,.string a1.name,.slice aa a1.kids.length am,.int .i64 o1.kind,.int .i64 o1.n,.string o1.name,.slice da o1.kids.length dm] ac) hI (by kernel_rfl) fun b20 w_ hI=>?_
   obtain ⟨S2,hI,hE3,hS3⟩:=Inv.pub1 (A:=[_,_,_]) hI
   have hE2:=hE2.trans hE3
   have hR':RdT S2 [.int .i64 a1.kind,.int .i64 a1.n,.string a1.name,.slice aa a1.kids.length am] a1:=by
    have:=RdT.mono hE2.1 hR
    rwa [hca] at this
   have e5:=fun (_:aC D 5 5=true)=>Ky hS3 hR' (RdT.mono hE2.1 hds)
   have e6:=fun (h:D 6=true)=>(absurd h (by rw [f6]; decide):cF=.agg c6.toArray/\RdT S2 c6 (HF a1 o1))
   have k6:=fun (_:aC D 5 6=true)=>(rfl:aC D 5 5=true)
   have k5:=fun (_:aC D 5 5=true)=>dS
   have hI:Inv w [] [B3,.blk b4 (.cells #[.int .i64 0,.int .i64 0,.string ⟨#[]⟩,.slice none 0 0] ac),.blk b5 (.cells (match D 7 with|true=>c6.toArray|false=>#[.int .i64 o1.kind,.int .i64 o1.n,.string o1.name,.slice da o1.kids.length dm]) ac)] S2 w_:=by
    rw [f7]
    exact hI
   exact ⟨az,ay,aA,aB,aw,fun _=>by first|assumption|trivial,aE,aI,⟨S2,c6,hE2,e5,e6,k7,k6,k5,hI⟩⟩
  ·intro D aY dV cF cd bZ dz dr dC ey w_
   rintro ⟨az,ay,aA,aB,aw,aD,aE,aI,⟨S2,c6,hE2,e5,e6,k7,k6,k5,hI⟩⟩
   have PE:=aD dV
   have f7:D 7=false:=Bool.eq_false_iff.2 fun h=>by rw [k7 h] at aY; cases aY
   rw [f7] at hI
   refine Run.call0E dY d5 hI (eG ⟨#[46]⟩ (by decide +kernel) (e5 dV) (by simp)) fun v' I' S2 w_=>?_
   rintro ⟨rfl,c6,rfl,hc6⟩ hE3 hI
   have hE2:=hE2.trans hE3
   have e5:=fun (h:D 5=true)=>(e5 h).monoT hE3.1
   have e6:aC D 6 6=true->Value.agg c6.toArray=Value.agg c6.toArray/\RdT S2 c6 (HF a1 o1):=fun _=>⟨rfl,hc6⟩
   have k7:=fun (_:aC D 6 7=true)=>(rfl:aC D 6 6=true)
   have k6:=fun (_:aC D 6 6=true)=>dV
   have hI:Inv w [] [B3,.blk b4 (.cells #[.int .i64 0,.int .i64 0,.string ⟨#[]⟩,.slice none 0 0] ac),.blk b5 (.cells (match D 7 with|true=>c6.toArray|false=>#[.int .i64 o1.kind,.int .i64 o1.n,.string o1.name,.slice da o1.kids.length dm]) ac)] S2 w_:=by
    rw [f7]
    exact hI
   exact ⟨az,ay,aA,aB,aw,aD,fun _=>by first|assumption|trivial,aI,⟨S2,c6,hE2,e5,e6,k7,k6,k5,hI⟩⟩
  ·intro D aY c9 gg qK wn wF wJ vh Bl AA cF cd bZ dz dr dC ey w_
   rintro ⟨az,ay,aA,aB,aw,aD,aE,aI,⟨S2,c6,hE2,e5,e6,k7,k6,k5,hI⟩⟩
   have O8:=aE c9
   obtain ⟨q6,hc6⟩:=e6 c9
   subst q6
   rw [aY] at hI
   have hone:=hc6.one
   have hlen:=hc6.length
   refine bf hI 2 rfl al (by simpa using hlen) rfl (by simpa using hone) fun w_ hI=>?_
   have k7:=fun (_:aC D 7 7=true)=>c9
   exact ⟨az,ay,aA,aB,aw,aD,aE,fun _=>trivial,⟨S2,c6,hE2,e5,e6,k7,k6,k5,hI⟩⟩
  intro D f0 f1 fM fF fI fK fL fN cF cd bZ dz dr dC ey w_
  rintro ⟨az,ay,aA,aB,aw,aD,aE,aI,⟨S2,c6,hE2,e5,e6,k7,k6,k5,hI⟩⟩
  have O8:=aE f1
  have PE:=aD fM
  obtain rfl:=aw fF
  obtain rfl:=aB fI
  obtain rfl:=aA fK
  obtain rfl:=ay fL
  obtain rfl:=az fN
  clear az ay aA aB aw aD aE aI
  rw [f0] at hI
  obtain ⟨_,hc6⟩:=e6 f1
  refine om (by omega) ?_
  refine ⟨⟨m,S2,c6,by omega,rfl,hE.trans hE2,?_,hI⟩,by simp [intOf]⟩
  rw [J0 hm,<- ha1,<- ho1]
  exact hc6
end
def ov (f:Nat):Prop:=∀ (s:Bs) (i d l:Nat) (t:T) (n:Nat) (S:aF),ja f s i d l=some (t,n)->s.length<=100000->i<=s.length->d<=100->l<=3->
 Tri Tryz.prog IC [.string (st s),.int .i64 (i:Int),.int .i64 (d:Int),.int .i64 (l:Int)] [] S (M6 t n)
def En (f:Nat):Prop:=∀ (s:Bs) (i d:Nat) (t:T) (n:Nat) (S:aF),rI f s i d=some (t,n)->s.length<=100000->i<=s.length->d<=100->
 Tri Tryz.prog Gf [.string (st s),.int .i64 (i:Int),.int .i64 (d:Int)] [] S (M6 t n)
def tl (f:Nat):Prop:=∀ (s:Bs) (i d e o:Nat) (ts:List T) (n:Nat) (S:aF),hH f s i d e o []=some (ts,n)->s.length<=100000->i<=s.length->d<=100->
 Tri Tryz.prog Ig [.string (st s),.int .i64 (i:Int),.int .i64 (d:Int),.int .u8 (e:Int),.int .u8 (o:Int)] [] S (O3 ts n)
theorem Da:∀ (f:Nat) (s:Bs) (i d e o:Nat) (acc ts:List T) (n:Nat),hH f s i d e o acc=some (ts,n)->ts.length+i<=acc.length+n
 | 0,s,i,d,e,o,acc,ts,n,h=>by simp [hH] at h
 | f+1,s,i,d,e,o,acc,ts,n,h=>by
  rw [hH] at h
  split at h
  ·cases h
  ·rename_i t' n' hr
   have a:=(gZ f).1 _ _ _ _ _ _ hr
   split at h
   ·simp only [Option.some.injEq,Prod.mk.injEq] at h
    obtain ⟨rfl,rfl⟩:=h
    rw [List.length_append]
    simp only [List.length_cons,List.length_nil]
    omega
   ·split at h
    ·have b:=Da f _ _ _ _ _ _ _ _ h
     rw [List.length_append] at b
     simp only [List.length_cons,List.length_nil] at b
     omega
    ·cases h
section
attribute [local irreducible] Run CondV ag be
theorem N6 {f:Nat} (ih:∀ g,g<f->ov g):tl f:=by
 intro s i d e o ts n S h hs hi hd w hI
 refine zj ?_
 unfold uj
 refine fk hI bM fun v0 w' hI=>?_
 refine ⟨fun a b w'=>∃ (f' i':Nat) (acc:List T) (S1:aF) (css:List (List Value)),f'<=f/\a=.int .i64 (i':Int)/\i<=i'/\i'<=s.length/\acc.length+i<=i'/\hH f' s i' d e o acc=some (ts,n)/\Ext w.heap.size [] S S1/\Rows 4 (RdT S1) css acc/\Inv w [] [bj b ac 4 css] S1 w',
  fun a _ _=>s.length+1 - (intOf a).toNat,⟨f,i,[],S,[],Nat.le_refl _,rfl,Nat.le_refl _,hi,by simp,h,Ext.refl _ _ _,Rows.nil _ _,hI⟩,?_⟩
 intro t1 _ _ _ _ _ _ _ _ _ _ _ _ _ _ _ _ _ _ _ _ t12 _ _ _ _ _ _ _ _ _ _ _ _ _ _ _ _ _ _ w'
 rintro ⟨f',i',acc,S1,css,hf',rfl,hi1,hi2,hacc,hT,hE,hR,hI⟩
 have hcl:=hR.hc
 cases f' with
 | zero=>simp [hH] at hT
 | succ g=>
 rw [hH] at hT
 split at hT
 ·cases hT
 rename_i t n' hr
 have hle:=(gZ g).1 _ _ _ _ _ _ hr
 refine Run.call0E gA gt hI (ih g (by omega) s i' d 3 t n' S1 hr hs hi2 hd (by omega)) fun v I' S2 w'=>?_
 rintro ⟨rfl,cs,rfl,hcs⟩ hE2 hI
 have hR2:=hR.monoR fun _ _ h=>RdT.mono hE2.1 h
 obtain ⟨kv,rfl,_,_,_,a,m,rfl,_⟩:=RdT.iff.1 hcs
 refine a7 (v:=.agg _) rfl ?_
 refine a7 (v:=.int .i64 (n':Int)) rfl ?_
 refine bH hI bN fun b13 w' hI=>?_
 refine bf hI 1 rfl al rfl rfl (by simp [Value.oneCell']) fun w' hI=>?_
 refine fq (by omega) ?_
 refine ba (fun hb=>by cases hb) (fun _=>?_)
 refine bb hI 1 al rfl rfl ?_
 refine gG (css:=css) hI 0 _ bM (by omega) (by omega) rfl hcs.length hcs.one (by omega) (by omega) fun v' w' hI=>?_
 have hI:Inv w [] [bj v' ac 4 (css++[[.int .i64 t.kind,.int .i64 t.n,.string t.name,.slice a t.kids.length m]])] S2 w':=hI.pick [true,false]
 have hR3:=hR2.snoc hcs hcs.length
 refine ⟨fun b w'=>b=.bool (sgn s n' e || sgn s n' o)/\Inv w [] [bj v' ac 4 (css++[[.int .i64 t.kind,.int .i64 t.n,.string t.name,.slice a t.kids.length m]])] S2 w',?_,?_⟩
 ·refine Run.callPure dE dH hI (dn s n' e S2) fun w' hI=>?_
  cases he:sgn s n' e
  ·repeat (first|refine ad ?_|refine af (by decide) ?_|refine ab ?_|refine ai ?_|refine ah ?_)
   refine Run.callPure dE dH hI (dn s n' o S2) fun w' hI=>?_
   repeat (first|refine ad ?_|refine af (by decide) ?_|refine ab ?_|refine ai ?_|refine ah ?_)
   exact ⟨by simp,hI⟩
  ·repeat (first|refine ad ?_|refine af (by decide) ?_|refine ab ?_|refine ai ?_|refine ah ?_)
   exact ⟨by simp,hI⟩
 intro t39 _ _ _ _ _ _ _ _ _ w'
 rintro ⟨rfl,hI⟩
 refine ba (fun hb=>?_) (fun hb=>?_)
 ·rw [Bool.or_eq_true] at hb
  rw [if_pos hb] at hT
  simp only [Option.some.injEq,Prod.mk.injEq] at hT
  obtain ⟨rfl,rfl⟩:=hT
  obtain ⟨S3,hE3,hrd,hI⟩:=Inv.lendExt (A:=[]) hI
  have hrs:=RowRd.rows (hR3.monoR fun _ _ h=>RdT.mono hE3.1 h) hrd
  exact ⟨_,[],S3,rfl,hI,(hE.trans hE2).trans hE3,rfl,_,rfl,hrs⟩
 ·have hb':¬ (sgn s n' e=true ∨ sgn s n' o=true):=fun h=>by rw [<- Bool.or_eq_true,hb] at h; cases h
  rw [if_neg hb'] at hT
  split at hT
  ·rename_i h44
   refine Run.callPure dE dH hI (dn s n' 44 S2) fun w' hI=>?_
   refine cc ?_
   rw [h44]
   refine ba (fun hb=>by cases hb) (fun _=>?_)
   have:=hO h44
   refine fu (a:=n') (b:=1) rfl rfl (by omega) ?_
   refine ⟨⟨g,n'+1,acc++[t],S2,css++[[.int .i64 t.kind,.int .i64 t.n,.string t.name,.slice a t.kids.length m]],by omega,rfl,by omega,by omega,?_,hT,hE.trans hE2,hR3,hI⟩,?_⟩
   ·rw [List.length_append]; simp only [List.length_cons,List.length_nil]; omega
   ·simp only [intOf,Int.toNat_natCast]; omega
  ·cases hT
theorem F5 {g:Nat} (hT:tl g) (hR:ov g) {s:Bs} {i d:Nat} {ts:List T} {n:Nat} {t:T} {e:Nat} (h1:hH g s i d 93 124 []=some (ts,n))
  (h2:(sgn s n 93=true/\t=iA ts Pe/\e=n+1) ∨ (sgn s n 93=false/\∃ u m,ja g s (n+1) d 3=some (u,m)/\sgn s m 93=true/\t=iA ts u/\e=m+1))
  (hs:s.length<=100000) (hi:i<=s.length) (hd:d<=100) (S:aF):Tri Tryz.prog GW [.string (st s),.int .i64 (i:Int),.int .i64 (d:Int)] [] S (M6 t e):=by
 intro w hI
 have hle:=(gZ g).2.2.2 _ _ _ _ _ _ _ _ h1
 have hln:=Da _ _ _ _ _ _ _ _ _ h1
 simp only [List.length_nil] at hln
 refine y5 ?_
 unfold uQ
 refine bH hI bN fun b6 w' hI=>?_
 refine Run.call0E s6 sP hI (hT s i d 93 124 ts n S h1 hs hi hd) fun v I' S1 w'=>?_
 rintro ⟨rfl,u,rfl,hu⟩ hE1 hI
 have hI:Inv w [] [.blk b6 (.cells #[.int .i64 0,.int .i64 0,.string ⟨#[]⟩,.slice none 0 0] ac)] S1 w':=hI
 refine a7 (v:=u) rfl ?_
 refine a7 (v:=.int .i64 (n:Int)) rfl ?_
 refine fq (by omega) ?_
 refine ba (fun hb=>by cases hb) (fun _=>?_)
 refine Run.callPure dE dH hI (dn s n 93 S1) fun w' hI=>?_
 rcases h2 with ⟨h3,rfl,rfl⟩|⟨h3,x,m,h4,h5,rfl,rfl⟩
 ·rw [h3]
  refine ba (fun _=>?_) (fun hb=>by cases hb)
  refine Run.call0E dY d5 hI (eG ⟨#[91,93]⟩ (by decide +kernel) (jO S1) (by simp)) fun v I' S2 w'=>?_
  rintro ⟨rfl,cs,rfl,hcs⟩ hE2 hI
  refine Run.call0E tW u9 hI (qY (hu.monoT hE2.1) hcs (by omega)) fun v I' S3 w'=>?_
  rintro ⟨rfl,ds,rfl,hds⟩ hE3 hI
  refine fu (a:=n) (b:=1) rfl rfl (by omega) ?_
  obtain ⟨kv,rfl,_,_,_,a,k,rfl,_⟩:=RdT.iff.1 hds
  refine bf hI 0 rfl al rfl rfl (by simp [Value.oneCell']) fun w' hI=>?_
  refine cH hI 0 al rfl rfl ?_
  exact ⟨_,[],S3,rfl,hI.nil,(hE1.trans hE2).trans hE3,rfl,_,rfl,hds⟩
 ·rw [h3]
  refine ba (fun hb=>by cases hb) (fun _=>?_)
  refine fu (a:=n) (b:=1) rfl rfl (by omega) ?_
  have hle2:=(gZ g).1 _ _ _ _ _ _ h4
  refine Run.call0E gA gt hI (hR s (n+1) d 3 x m S1 h4 hs (by omega) hd (by omega)) fun v I' S2 w'=>?_
  rintro ⟨rfl,cs,rfl,hcs⟩ hE2 hI
  obtain ⟨kv,rfl,_,_,_,a,k,rfl,_⟩:=RdT.iff.1 hcs
  refine a7 (v:=.agg _) rfl ?_
  refine a7 (v:=.int .i64 (m:Int)) rfl ?_
  refine bH hI bN fun b10 w' hI=>?_
  refine bf hI 1 rfl al rfl rfl (by simp [Value.oneCell']) fun w' hI=>?_
  refine fq (by omega) ?_
  refine ba (fun hb=>by cases hb) (fun _=>?_)
  refine Run.callPure dE dH hI (dn s m 93 S2) fun w' hI=>?_
  refine cc ?_
  rw [h5]
  refine ba (fun hb=>by cases hb) (fun _=>?_)
  refine bb hI 1 al rfl rfl ?_
  refine Run.call0E tW u9 hI (qY (hu.monoT hE2.1) hcs (by omega)) fun v I' S3 w'=>?_
  rintro ⟨rfl,ds,rfl,hds⟩ hE3 hI
  refine fu (a:=m) (b:=1) rfl rfl (by omega) ?_
  obtain ⟨kv,rfl,_,_,_,a,k,rfl,_⟩:=RdT.iff.1 hds
  refine bf hI 0 rfl al rfl rfl (by simp [Value.oneCell']) fun w' hI=>?_
  refine cH hI 0 al rfl rfl ?_
  exact ⟨_,[],S3,rfl,hI.nil,(hE1.trans hE2).trans hE3,rfl,_,rfl,hds⟩
theorem Eq {n:Bs} (h:n.length<=6):(st n).size<=maxLen:=by rw [mS]; simp only [maxLen]; omega
theorem N9 {f:Nat} (ihR:∀ g,g<f->ov g) (ihT:∀ g,g<f->tl g):En f:=by
 intro s i d t n S h hs hi hd w hI
 cases f with
 | zero=>simp [rI] at h
 | succ g=>
 have hR:=ihR g (by omega)
 have hT:=ihT g (by omega)
 have hle:=(gZ (g+1)).2.2.1 _ _ _ _ _ h
 rw [rI] at h
 split at h
 ·cases h
 rename_i h0
 have hd0:1<=d:=by omega
 have hlt:i<s.length:=by omega
 refine zc ?_
 unfold uh
 refine bH hI bN fun b6 w' hI=>?_
 have hI:Inv w [] [.blk b6 (.cells #[.int .i64 0,.int .i64 0,.string ⟨#[]⟩,.slice none 0 0] ac)] S w':=hI
 refine ⟨fun b w'=>b=.bool false/\Inv w [] [.blk b6 (.cells #[.int .i64 0,.int .i64 0,.string ⟨#[]⟩,.slice none 0 0] ac)] S w',?_,?_⟩
 ·refine fq (by omega) ?_
  repeat (first|refine ad ?_|refine af (by decide) ?_|refine ab ?_|refine ai ?_|refine ah ?_)
  refine fX bi ?_
  refine rH (by omega) ?_
  repeat (first|refine ad ?_|refine af (by decide) ?_|refine ab ?_|refine ai ?_|refine ah ?_)
  exact ⟨rfl,hI⟩
 intro t23 _ _ _ _ _ _ _ w'
 rintro ⟨rfl,hI⟩
 refine ba (fun hb=>by cases hb) (fun _=>?_)
 refine eN bi hlt ?_
 split at h
 ·rename_i h40
  rw [kj hlt,decide_eq_true_eq] at h40
  refine gf (by omega) ?_
  refine ba (fun _=>?_) (fun hb=>by cases hb)
  split at h
  ·cases h
  rename_i u m hr
  split at h
  ·rename_i h41
   simp only [Option.some.injEq,Prod.mk.injEq] at h
   obtain ⟨rfl,rfl⟩:=h
   have hle2:=(gZ g).1 _ _ _ _ _ _ hr
   refine fu (a:=i) (b:=1) rfl rfl (by omega) ?_
   refine Run.call0E gA gt hI (hR s (i+1) d 3 u m S hr hs (by omega) hd (by omega)) fun v I' S2 w'=>?_
   rintro ⟨rfl,cs,rfl,hcs⟩ hE2 hI
   obtain ⟨kv,rfl,_,_,_,a,k,rfl,_⟩:=RdT.iff.1 hcs
   refine a7 (v:=.agg _) rfl ?_
   refine a7 (v:=.int .i64 (m:Int)) rfl ?_
   refine bH hI bN fun b8 w' hI=>?_
   refine bf hI 1 rfl al rfl rfl (by simp [Value.oneCell']) fun w' hI=>?_
   refine fq (by omega) ?_
   refine ba (fun hb=>by cases hb) (fun _=>?_)
   refine Run.callPure dE dH hI (dn s m 41 S2) fun w' hI=>?_
   refine cc ?_
   rw [h41]
   refine ba (fun hb=>by cases hb) (fun _=>?_)
   refine bb hI 1 al rfl rfl ?_
   refine fu (a:=m) (b:=1) rfl rfl (by omega) ?_
   refine bf hI 0 rfl al rfl rfl (by simp [Value.oneCell']) fun w' hI=>?_
   refine cH hI 0 al rfl rfl ?_
   exact ⟨_,[],S2,rfl,hI.nil,hE2,rfl,_,rfl,hcs⟩
  ·cases h
 rename_i h40
 rw [kj hlt,decide_eq_true_eq] at h40
 refine fe (by omega) ?_
 refine ba (fun hb=>by cases hb) (fun _=>?_)
 refine ⟨fun b w'=>b=.bool (sgn s i 91 && !sgn s (i+1) 93)/\Inv w [] [.blk b6 (.cells #[.int .i64 0,.int .i64 0,.string ⟨#[]⟩,.slice none 0 0] ac)] S w',?_,?_⟩
 ·refine eN bi hlt ?_
  by_cases h91:s[i].toNat=91
  ·refine gf (by omega) ?_
   repeat (first|refine ad ?_|refine af (by decide) ?_|refine ab ?_|refine ai ?_|refine ah ?_)
   refine fu (a:=i) (b:=1) rfl rfl (by omega) ?_
   refine Run.callPure dE dH hI (dn s (i+1) 93 S) fun w' hI=>?_
   refine cc ?_
   repeat (first|refine ad ?_|refine af (by decide) ?_|refine ab ?_|refine ai ?_|refine ah ?_)
   exact ⟨by rw [kj hlt,decide_eq_true h91,Bool.true_and],hI⟩
  ·refine fe (by omega) ?_
   repeat (first|refine ad ?_|refine af (by decide) ?_|refine ab ?_|refine ai ?_|refine ah ?_)
   exact ⟨by rw [kj hlt,decide_eq_false h91,Bool.false_and],hI⟩
 intro t65 _ _ _ _ _ _ _ _ _ _ w'
 rintro ⟨rfl,hI⟩
 split at h
 ·rename_i h91
  rw [h91.1,h91.2]
  refine ba (fun _=>?_) (fun hb=>by cases hb)
  split at h
  ·cases h
  rename_i ts m hts
  have h2:(sgn s m 93=true/\t=iA ts Pe/\n=m+1) ∨ (sgn s m 93=false/\∃ u k,ja g s (m+1) (d - 1) 3=some (u,k)/\sgn s k 93=true/\t=iA ts u/\n=k+1):=by
   split at h
   ·rename_i h3
    simp only [Option.some.injEq,Prod.mk.injEq] at h
    exact .inl ⟨h3,h.1.symm,h.2.symm⟩
   ·rename_i h3
    split at h
    ·cases h
    rename_i u k hr
    split at h
    ·rename_i h4
     simp only [Option.some.injEq,Prod.mk.injEq] at h
     exact .inr ⟨Bool.eq_false_iff.2 h3,u,k,hr,h4,h.1.symm,h.2.symm⟩
    ·cases h
  refine fu (a:=i) (b:=1) rfl rfl (by omega) ?_
  refine zy (a:=d) (b:=1) rfl rfl hd0 (by omega) ?_
  refine Run.call0E Ed FW hI (F5 hT hR hts h2 hs (by omega) (by omega) S) fun v I' S2 w'=>?_
  rintro ⟨rfl,cs,rfl,hcs⟩ hE2 hI
  obtain ⟨kv,rfl,_,_,_,a,k,rfl,_⟩:=RdT.iff.1 hcs
  refine a7 (v:=.agg _) rfl ?_
  refine a7 (v:=.int .i64 (n:Int)) rfl ?_
  refine bf hI 0 rfl al rfl rfl (by simp [Value.oneCell']) fun w' hI=>?_
  refine cH hI 0 al rfl rfl ?_
  exact ⟨_,[],S2,rfl,hI.nil,hE2,rfl,_,rfl,hcs⟩
 rename_i h91
 have e91:(sgn s i 91 && !sgn s (i+1) 93)=false:=by
  cases h5:sgn s i 91
  ·rfl
  ·cases h6:sgn s (i+1) 93
   ·exact absurd ⟨h5,h6⟩ h91
   ·rfl
 rw [e91]
 refine ba (fun hb=>by cases hb) (fun _=>?_)
 refine ⟨fun b w'=>b=.bool (upp s i)/\Inv w [] [.blk b6 (.cells #[.int .i64 0,.int .i64 0,.string ⟨#[]⟩,.slice none 0 0] ac)] S w',?_,?_⟩
 ·refine eN bi hlt ?_
  by_cases h65:65<=s[i].toNat
  ·refine l4 (by omega) ?_
   repeat (first|refine ad ?_|refine af (by decide) ?_|refine ab ?_|refine ai ?_|refine ah ?_)
   refine eN bi hlt ?_
   refine gk ?_
   repeat (first|refine ad ?_|refine af (by decide) ?_|refine ab ?_|refine ai ?_|refine ah ?_)
   refine ⟨?_,hI⟩
   rw [upp,ne hlt,decide_eq_true h65,Bool.true_and]
   congr 1
   rw [decide_eq_decide]
   omega
  ·refine rH (by omega) ?_
   repeat (first|refine ad ?_|refine af (by decide) ?_|refine ab ?_|refine ai ?_|refine ah ?_)
   exact ⟨by rw [upp,ne hlt,decide_eq_false h65,Bool.false_and],hI⟩
 intro t83 _ _ _ _ _ _ _ _ _ w'
 rintro ⟨rfl,hI⟩
 split at h
 ·rename_i hup
  simp only [Option.some.injEq,Prod.mk.injEq] at h
  obtain ⟨rfl,rfl⟩:=h
  rw [hup]
  rw [upp,ne hlt,Bool.and_eq_true,decide_eq_true_eq,decide_eq_true_eq] at hup
  refine ba (fun _=>?_) (fun hb=>by cases hb)
  refine eN bi hlt ?_
  refine Nk (c:=(s[i].toNat:Int) - 65) (IntWalk.u8_in _ (by omega)) ?_
  refine pJ gz kM (IntWalk.i64_in _ (by omega)) ?_
  refine Run.callPure Bp Bj hI (rm _ S) fun w' hI=>?_
  refine fu (a:=i) (b:=1) rfl rfl (by omega) ?_
  refine bf hI 0 rfl al rfl rfl (by simp [Value.oneCell']) fun w' hI=>?_
  refine cH hI 0 al rfl rfl ?_
  have eg:((s.getD i 0).toNat:Int) - 65=(s[i].toNat:Int) - 65:=by rw [List.getD_eq_getElem?_getD,List.getElem?_eq_getElem hlt]; rfl
  rw [eg]
  exact ⟨_,[],S,rfl,hI.nil,Ext.refl _ _ _,rfl,_,rfl,RdT.nil (by simp [inI]) (by unfold inI; omega) (by decide +kernel) (Nat.zero_le _)⟩
 rename_i hup
 rw [Bool.eq_false_iff.2 hup]
 refine ba (fun hb=>by cases hb) (fun _=>?_)
 refine ⟨fun b w'=>b=.bool (dig s i || (sgn s i 45 && dig s (i+1)))/\Inv w [] [.blk b6 (.cells #[.int .i64 0,.int .i64 0,.string ⟨#[]⟩,.slice none 0 0] ac)] S w',?_,?_⟩
 ·refine Run.callPure jQ jN hI (gX s i S) fun w' hI=>?_
  cases hdi:dig s i
  ·repeat (first|refine ad ?_|refine af (by decide) ?_|refine ab ?_|refine ai ?_|refine ah ?_)
   refine eN bi hlt ?_
   by_cases h45:s[i].toNat=45
   ·refine gf (by omega) ?_
    repeat (first|refine ad ?_|refine af (by decide) ?_|refine ab ?_|refine ai ?_|refine ah ?_)
    refine fu (a:=i) (b:=1) rfl rfl (by omega) ?_
    refine Run.callPure jQ jN hI (gX s (i+1) S) fun w' hI=>?_
    repeat (first|refine ad ?_|refine af (by decide) ?_|refine ab ?_|refine ai ?_|refine ah ?_)
    exact ⟨by rw [kj hlt,decide_eq_true h45,Bool.true_and,Bool.false_or],hI⟩
   ·refine fe (by omega) ?_
    repeat (first|refine ad ?_|refine af (by decide) ?_|refine ab ?_|refine ai ?_|refine ah ?_)
    exact ⟨by rw [kj hlt,decide_eq_false h45,Bool.false_and,Bool.false_or],hI⟩
  ·repeat (first|refine ad ?_|refine af (by decide) ?_|refine ab ?_|refine ai ?_|refine ah ?_)
   exact ⟨by rw [Bool.true_or],hI⟩
 intro t106 _ _ _ _ _ _ _ _ _ _ _ _ _ _ w'
 rintro ⟨rfl,hI⟩
 split at h
 ·rename_i hdg
  have:(dig s i || (sgn s i 45 && dig s (i+1)))=true:=by rw [Bool.or_eq_true,Bool.and_eq_true]; exact hdg
  rw [this]
  refine ba (fun _=>?_) (fun hb=>by cases hb)
  obtain ⟨k,hk,rfl,_,_,hnum⟩:=Ab h (by omega) S
  refine Run.callPure CA Cs hI hnum fun w' hI=>?_
  refine a7 (v:=DZ 2 k) rfl ?_
  refine a7 (v:=.int .i64 (n:Int)) rfl ?_
  refine bH hI bN fun b10 w' hI=>?_
  refine bf hI 1 rfl al rfl rfl (by simp [Value.oneCell']) fun w' hI=>?_
  refine fq (by omega) ?_
  refine ba (fun hb=>by cases hb) (fun _=>?_)
  refine bb hI 1 al rfl rfl ?_
  refine bf hI 0 rfl al rfl rfl (by simp [Value.oneCell']) fun w' hI=>?_
  refine cH hI 0 al rfl rfl ?_
  exact ⟨_,[],S,rfl,hI.nil,Ext.refl _ _ _,rfl,_,rfl,RdT.nil (by simp [inI]) hk (by decide +kernel) (Nat.zero_le _)⟩
 rename_i hdg
 have:(dig s i || (sgn s i 45 && dig s (i+1)))=false:=by
  rw [Bool.eq_false_iff,ne_eq,Bool.or_eq_true,Bool.and_eq_true]; exact hdg
 rw [this]
 refine ba (fun hb=>by cases hb) (fun _=>?_)
 refine Run.callPure xt xz hI (th hlt hs S) fun w' hI=>?_
 cases hnm:uw s i with
 | none=>rw [hnm] at h; cases h
 | some q=>
 obtain ⟨name,m⟩:=q
 rw [hnm] at h
 simp only [] at h
 simp only [Lz]
 have hnl:=uH hlt hnm
 refine a7 (v:=.string (st name)) rfl ?_
 refine a7 (v:=.int .i64 (m:Int)) rfl ?_
 refine fq (by omega) ?_
 refine ba (fun hb=>by cases hb) (fun _=>?_)
 refine Run.callPure dE dH hI (dn s m 40 S) fun w' hI=>?_
 refine cc ?_
 split at h
 ·rename_i h40'
  simp only [Option.some.injEq,Prod.mk.injEq] at h
  obtain ⟨rfl,rfl⟩:=h
  rw [h40']
  refine ba (fun _=>?_) (fun hb=>by cases hb)
  refine Run.call0E dY d5 hI (eG (st name) (Eq hnl.2.2.1) (jO S) (by simp)) fun v I' S2 w'=>?_
  rintro ⟨rfl,cs,rfl,hcs⟩ hE2 hI
  obtain ⟨kv,rfl,_,_,_,a,k,rfl,_⟩:=RdT.iff.1 hcs
  refine bf hI 0 rfl al rfl rfl (by simp [Value.oneCell']) fun w' hI=>?_
  refine cH hI 0 al rfl rfl ?_
  exact ⟨_,[],S2,rfl,hI.nil,hE2,rfl,_,rfl,hcs⟩
 ·rename_i h40'
  rw [Bool.not_eq_false] at h40'
  rw [h40']
  refine ba (fun hb=>by cases hb) (fun _=>?_)
  split at h
  ·cases h
  rename_i ts k hts
  simp only [Option.some.injEq,Prod.mk.injEq] at h
  obtain ⟨rfl,rfl⟩:=h
  have hm:=hO h40'
  have hle2:=(gZ g).2.2.2 _ _ _ _ _ _ _ _ hts
  refine fu (a:=m) (b:=1) rfl rfl (by omega) ?_
  refine zy (a:=d) (b:=1) rfl rfl hd0 (by omega) ?_
  refine Run.call0E s6 sP hI (hT s (m+1) (d - 1) 41 41 ts k S hts hs (by omega) (by omega)) fun v I' S2 w'=>?_
  rintro ⟨rfl,u,rfl,hu⟩ hE2 hI
  refine a7 (v:=u) rfl ?_
  refine a7 (v:=.int .i64 (k:Int)) rfl ?_
  refine fq (by omega) ?_
  refine ba (fun hb=>by cases hb) (fun _=>?_)
  obtain ⟨a,c,rfl,_⟩:=id hu
  refine rh ⟨_,_,_,rfl⟩ ?_
  refine fu (a:=k) (b:=1) rfl rfl (by omega) ?_
  refine bf hI 0 rfl al rfl rfl (by simp [Value.oneCell']) fun w' hI=>?_
  refine cH hI 0 al rfl rfl ?_
  exact ⟨_,[],S2,rfl,hI.nil,hE2,rfl,_,rfl,RdT.iff.2 ⟨_,rfl,by simp [inI,T.kind,G2],by simp [inI,T.n,G2],Eq hnl.2.2.1,hu⟩⟩
theorem Oq {f:Nat} (ihR:∀ g,g<f->ov g) (ihP:∀ g,g<f->En g):ov f:=by
 intro s i d l t n S h hs hi hd hl w hI
 cases f with
 | zero=>simp [ja] at h
 | succ f=>
 refine Aq ?_
 unfold xR
 refine bH hI bN fun b8 w' hI=>?_
 have hI:Inv w [] [.blk b8 (.cells #[.int .i64 0,.int .i64 0,.string ⟨#[]⟩,.slice none 0 0] ac)] S w':=hI
 cases l with
 | zero=>
  rw [ja] at h
  refine gf rfl ?_
  refine ba (fun _=>?_) (fun hb=>by cases hb)
  refine Run.call0E Ev FN hI (ihP f (by omega) s i d t n S h hs hi hd) fun v I' S2 w'=>?_
  rintro ⟨rfl,cs,rfl,hcs⟩ hE2 hI
  obtain ⟨kv,rfl,_,_,_,a,k,rfl,_⟩:=RdT.iff.1 hcs
  refine a7 (v:=.agg _) rfl ?_
  refine a7 (v:=.int .i64 (n:Int)) rfl ?_
  refine bf hI 0 rfl al rfl rfl (by simp [Value.oneCell']) fun w' hI=>?_
  refine cH hI 0 al rfl rfl ?_
  exact ⟨_,[],S2,rfl,hI.nil,hE2,rfl,_,rfl,hcs⟩
 | succ l=>
  rw [ja] at h
  split at h
  ·cases h
  rename_i t0 n0 hr
  have hle:=(gZ f).1 _ _ _ _ _ _ hr
  refine fe (by omega) ?_
  refine ba (fun hb=>by cases hb) (fun _=>?_)
  refine zy (a:=l+1) (b:=1) rfl rfl (by omega) (by omega) ?_
  rw [Nat.add_sub_cancel]
  refine Run.call0E gA gt hI (ihR f (by omega) s i d l t0 n0 S hr hs hi hd (by omega)) fun v I' S1 w'=>?_
  rintro ⟨rfl,cs,rfl,hcs⟩ hE1 hI
  obtain ⟨kv,rfl,_,_,_,a,k,rfl,_⟩:=RdT.iff.1 hcs
  refine a7 (v:=.agg _) rfl ?_
  refine a7 (v:=.int .i64 (n0:Int)) rfl ?_
  refine bH hI bN fun b10 w' hI=>?_
  refine bf hI 1 rfl al rfl rfl (by simp [Value.oneCell']) fun w' hI=>?_
  refine ⟨fun a w'=>∃ (f' n':Nat) (t':T) (ds:List Value) (S1:aF),f'<=f/\a=.int .i64 (n':Int)/\n'<=s.length/\Id f' s n' d l t'=some (t,n)/\Ext w.heap.size [] S S1/\RdT S1 ds t'/\Inv w [] [.blk b8 (.cells #[.int .i64 0,.int .i64 0,.string ⟨#[]⟩,.slice none 0 0] ac),.blk b10 (.cells ds.toArray ac)] S1 w',
   fun a _=>s.length+1 - (intOf a).toNat,⟨f,n0,t0,_,S1,Nat.le_refl _,rfl,hle.2,h,hE1,hcs,hI⟩,?_⟩
  clear h hE1 hcs hI hr hle
  intro _ _ _ _ t11 _ _ _ _ _ _ _ _ _ _ _ _ _ _ _ _ _ _ _ _ _ _ _ _ _ _ _ _ _ _ _ _ _ _ _ _ _ _ _ _ _ _ w'
  rintro ⟨f',n',t',ds,S1,hf',rfl,hn',ho,hE,hds,hI⟩
  obtain ⟨kd,rfl,_,_,hts',da,dm,rfl,_⟩:=RdT.iff.1 hds
  cases f' with
  | zero=>simp [Id] at ho
  | succ g=>
  rw [Id] at ho
  refine l4 (by omega) ?_
  refine ba (fun _=>?_) (fun hb=>by cases hb)
  refine Run.callPure Ma MT hI (KD hs hn' S1) fun w' hI=>?_
  cases hop:opF s n' with
  | none=>
   rw [hop] at ho
   simp only [Option.some.injEq,Prod.mk.injEq] at ho
   obtain ⟨rfl,rfl⟩:=ho
   simp only [opV]
   refine a7 (v:=.string ⟨#[]⟩) rfl ?_
   refine a7 (v:=.int .i64 (n':Int)) rfl ?_
   refine ⟨fun b w'=>b=.bool true/\Inv w [] [.blk b8 (.cells #[.int .i64 0,.int .i64 0,.string ⟨#[]⟩,.slice none 0 0] ac),.blk b10 (.cells #[.int .i64 t'.kind,.int .i64 t'.n,.string t'.name,.slice da t'.kids.length dm] ac)] S1 w',?_,?_⟩
   ·refine cV ?_
    rw [decide_eq_true rfl]
    repeat (first|refine ad ?_|refine af (by decide) ?_|refine ab ?_|refine ai ?_|refine ah ?_)
    exact ⟨rfl,hI⟩
   intro t48 _ _ _ _ _ _ _ w'
   rintro ⟨rfl,hI⟩
   refine ba (fun _=>?_) (fun hb=>by cases hb)
   refine bb hI 1 al rfl rfl ?_
   refine bf hI 0 rfl al rfl rfl (by simp [Value.oneCell']) fun w' hI=>?_
   refine cH hI 0 al rfl rfl ?_
   exact ⟨_,[],S1,rfl,hI.nil,hE,rfl,_,rfl,hds⟩
  | some q=>
   obtain ⟨name,after⟩:=q
   rw [hop] at ho
   simp only [] at ho
   simp only [opV]
   have hol:=Nt hop
   refine a7 (v:=.string (st name)) rfl ?_
   refine a7 (v:=.int .i64 (after:Int)) rfl ?_
   refine ⟨fun b w'=>b=.bool (!decide (dp (st name)=((l+1:Nat):Int)))/\Inv w [] [.blk b8 (.cells #[.int .i64 0,.int .i64 0,.string ⟨#[]⟩,.slice none 0 0] ac),.blk b10 (.cells #[.int .i64 t'.kind,.int .i64 t'.n,.string t'.name,.slice da t'.kids.length dm] ac)] S1 w',?_,?_⟩
   ·refine zu (b:=[]) ?_
    rw [decide_eq_false hol.2.2.2]
    repeat (first|refine ad ?_|refine af (by decide) ?_|refine ab ?_|refine ai ?_|refine ah ?_)
    refine Run.callPure fW fV hI (ez _ S1) fun w' hI=>?_
    refine gr ?_
    repeat (first|refine ad ?_|refine af (by decide) ?_|refine ab ?_|refine ai ?_|refine ah ?_)
    exact ⟨rfl,hI⟩
   intro t48 _ _ _ _ _ _ _ w'
   rintro ⟨rfl,hI⟩
   split at ho
   ·rename_i hlv
    rw [decide_eq_true hlv]
    refine ba (fun hb=>by cases hb) (fun _=>?_)
    split at ho
    ·cases ho
    rename_i r e hr
    have hle:=(gZ g).1 _ _ _ _ _ _ hr
    refine zy (a:=l+1) (b:=1) rfl rfl (by omega) (by omega) ?_
    rw [Nat.add_sub_cancel]
    refine Run.call0E gA gt hI (ihR g (by omega) s after d l r e S1 hr hs (by omega) hd (by omega)) fun v I' S2 w'=>?_
    rintro ⟨rfl,es,rfl,hes⟩ hE2 hI
    obtain ⟨ke,rfl,_,_,_,ea,em,rfl,_⟩:=RdT.iff.1 hes
    refine a7 (v:=.agg _) rfl ?_
    refine a7 (v:=.int .i64 (e:Int)) rfl ?_
    refine bH hI bN fun b14 w' hI=>?_
    refine bf hI 2 rfl al rfl rfl (by simp [Value.oneCell']) fun w' hI=>?_
    refine fq (by omega) ?_
    refine ba (fun hb=>by cases hb) (fun _=>?_)
    refine bb hI 1 al rfl rfl ?_
    refine bb hI 2 al rfl rfl ?_
    refine sz (v:=fun b=>.slice (some ⟨b,0,none⟩) 2 2) (o:=.cells #[.int .i64 t'.kind,.int .i64 t'.n,.string t'.name,.slice da t'.kids.length dm,.int .i64 r.kind,.int .i64 r.n,.string r.name,.slice ea r.kids.length em] ac) hI (by kernel_rfl) fun b20 w' hI=>?_
    obtain ⟨S3,hI,hE3,hS3⟩:=Inv.pub1 (A:=[_,_,_]) hI
    have hks:=Ky hS3 (RdT.mono (hE2.1.trans hE3.1) hds) (RdT.mono hE3.1 hes)
    refine Run.call0E dY d5 hI (eG (st name) (Eq hol.2.2.1) hks (by simp)) fun v I' S4 w'=>?_
    rintro ⟨rfl,gs,rfl,hgs⟩ hE4 hI
    obtain ⟨kg,rfl,_,_,_,ga,gm,rfl,_⟩:=RdT.iff.1 hgs
    have hE':=((hE.trans hE2).trans hE3).trans hE4
    refine bf hI 1 rfl al rfl rfl (by simp [Value.oneCell']) fun w' hI=>?_
    split at ho
    ·rename_i hl2
     subst hl2
     simp only [Option.some.injEq,Prod.mk.injEq] at ho
     obtain ⟨rfl,rfl⟩:=ho
     refine gf rfl ?_
     refine ba (fun _=>?_) (fun hb=>by cases hb)
     refine bb hI 1 al rfl rfl ?_
     refine bf hI 0 rfl al rfl rfl (by simp [Value.oneCell']) fun w' hI=>?_
     refine cH hI 0 al rfl rfl ?_
     exact ⟨_,[],S4,rfl,hI.nil,hE',rfl,_,rfl,hgs⟩
    ·refine fe (by omega) ?_
     refine ba (fun hb=>by cases hb) (fun _=>?_)
     refine ⟨⟨g,e,_,_,S4,by omega,rfl,hle.2,ho,hE',hgs,hI.pick [true,true,false]⟩,?_⟩
     simp only [intOf,Int.toNat_natCast]
     omega
   ·rename_i hlv
    rw [decide_eq_false hlv]
    simp only [Option.some.injEq,Prod.mk.injEq] at ho
    obtain ⟨rfl,rfl⟩:=ho
    refine ba (fun _=>?_) (fun hb=>by cases hb)
    refine bb hI 1 al rfl rfl ?_
    refine bf hI 0 rfl al rfl rfl (by simp [Value.oneCell']) fun w' hI=>?_
    refine cH hI 0 al rfl rfl ?_
    exact ⟨_,[],S1,rfl,hI.nil,hE,rfl,_,rfl,hds⟩
theorem NL:∀ F f,f<F->ov f/\En f/\tl f
 | 0,f,h=>by omega
 | F+1,f,h=>by
  have ih:=NL F
  have hR:ov f:=Oq (fun g hg=>(ih g (by omega)).1) (fun g hg=>(ih g (by omega)).2.1)
  have hT:tl f:=N6 fun g hg=>(ih g (by omega)).1
  exact ⟨hR,N9 (fun g hg=>(ih g (by omega)).1) (fun g hg=>(ih g (by omega)).2.2),hT⟩
theorem DQ (f:Nat):ov f:=(NL (f+1) f (by omega)).1
end

end Go.Proofs.YtemmhhdnlbmicaaGreat

/- The source of random numbers: spec.l18Open, pick, of, num. (printed by gen_rd.py) -/
namespace Go.Proofs.YtemmhhdnlbmicaaGreat
open Go Go.RowKit

def iU (cs:List Value) (n:Nat):Prop:=cs=[.int .u8 (n:Int)]/\n<256
abbrev rdI (br:Nat) (sl:Value) (p:Nat):Item:=.blk br (.cells #[sl,.int .i64 (p:Int)] HG)
abbrev rdP (br:Nat):Value:=.pointer (some ⟨br,0,none⟩)
section
variable {P:Program} {w:World} {K:Value->World->Prop}
theorem KH {T:TypeId} {cx cy:Bool} {x y:Int} {a b:Nat} (hx:x=a) (hy:y=b) (hb:0<b) (hk:K (.int .i64 ((a % b:Nat):Int)) w):Run P (aq .rem T cx cy (.int .i64 x) (.int .i64 y)) w K:=by
 subst hx hy
 exact Iq hb hk
theorem JS {T:TypeId} {cx cy:Bool} {x y:Int} {a b:Nat} (hx:x=a) (hy:y=b) (hb:0<b) (ha:a<=9223372036854775807) (hk:K (.int .i64 ((a / b:Nat):Int)) w):Run P (aq .quo T cx cy (.int .i64 x) (.int .i64 y)) w K:=by
 subst hx hy
 exact Pt hb ha hk
theorem Pu {T:TypeId} {cx cy:Bool} {x y:Int} {a b:Nat} (hx:x=a) (hy:y=b) (ha:a<4611686018427387904) (hb:b<4611686018427387904) (hk:K (.int .i64 ((a ^^^ b:Nat):Int)) w):Run P (aq .xor T cx cy (.int .i64 x) (.int .i64 y)) w K:=by
 subst hx hy
 exact Pm ha hb hk
end
theorem RdSl.u8 {S:aF} {sl:Value} {ys:List Nat} (h:RdSl S 1 iU sl ys) (h0:0<ys.length):∃ b o cap c E fz,sl=.slice (some ⟨b,o,none⟩) ys.length cap/\S b=some (.cells c E fz)/\
  ∀ i,i<ys.length->∃ y:Nat,c[o+i * 1]?=some (.int .u8 (y:Int))/\y<256:=by
 obtain ⟨a,cap,rfl,hl,hc,h⟩:=h
 rcases h with rfl|⟨b,o,c,E,fz,rfl,hS,hR⟩
 ·simp at h0
 ·refine ⟨b,o,cap,c,E,fz,rfl,hS,fun i hi=>?_⟩
  obtain ⟨h1,h2⟩:=hR i hi
  exact ⟨ys[i],bl h1 0 _ rfl,h2⟩
section
attribute [local irreducible] Run CondV ag be
abbrev Qf (S:aF) (br:Nat) (sl:Value) (p n:Nat):Value->List Item->aF->Prop:=fun v I' S'=>S'=S/\I'=[rdI br sl (p+1)]/\∃ k:Nat,k<n/\v=.int .i64 (k:Int)
theorem eB {ys:List Nat} {S:aF} {sl:Value} {br p n:Nat} (h:RdSl S 1 iU sl ys) (hp:p<=1000000000000) (hn:0<n):Tri Tryz.prog Au [rdP br,.int .i64 (n:Int)] [rdI br sl p] S (Qf S br sl p n):=by
 intro w hI
 refine rW ?_
 unfold nN
 obtain ⟨X,hX⟩:∃ X,X=bY [rdI br sl p]:=⟨_,rfl⟩
 rw [<- hX] at hI ⊢
 have hsl:∃ a m cap,sl=.slice a m cap/\m=ys.length:=by
  obtain ⟨a,cap,e,_⟩:=h
  exact ⟨a,_,cap,e,rfl⟩
 refine d6 ?_
 refine bg oF ?_
 refine bE hI 0 bn rfl rfl ?_
 refine bP (by omega) ?_
 refine d6 ?_
 refine bg oF ?_
 refine eq hI 0 (n:=1) rfl (by decide +kernel) rfl (by simp) (by simp [Value.cells,Value.oneCell']) fun w' hI=>?_
 have hI:Inv w X [rdI br sl (p+1)] S w':=hI
 have hN:∃ N:Nat,N=ys.length:=⟨_,rfl⟩
 refine ⟨fun t w'=>t=.bool (decide (ys.length=0))/\Inv w X [rdI br sl (p+1)] S w',?_,?_⟩
 ·refine fq (by omega) ?_
  refine KK (fun _=>?_) (fun hb=>by simp at hb)
  refine d6 ?_
  refine bg fO ?_
  refine bE hI 0 g9 rfl rfl ?_
  refine a9 h dU ?_
  refine bR ?_
  refine sa ?_
  refine ⟨?_,hI⟩
  simp
 intro t24 _ _ _ _ _ _ _ _ _ w'
 rintro ⟨rfl,hI⟩
 refine bk (fun _=>⟨_,_,_,rfl,hI,Ext.refl _ _ _,rfl,rfl,0,hn,rfl⟩) (fun h0=>?_)
 have h0:0<ys.length:=by omega
 obtain ⟨b,o,cap,c,E,fz,rfl,hS,hc⟩:=h.u8 h0
 refine d6 ?_
 refine bg oF ?_
 refine bE hI 0 bn rfl rfl ?_
 refine om (by omega) ?_
 have ep:((p+1:Nat):Int) - 1=(p:Int):=by omega
 rw [ep]
 refine d6 ?_
 refine bg fO ?_
 refine bE hI 0 g9 rfl rfl ?_
 refine gD dU ?_
 refine bU ?_
 refine bk (fun hlt=>?_) (fun _=>?_)
 ·have hlt':p<ys.length:=by omega
  obtain ⟨y,hy,hy2⟩:=hc p hlt'
  refine d6 ?_
  refine bg fO ?_
  refine bE hI 0 g9 rfl rfl ?_
  refine bh dU hlt' ?_
  refine dM At ((hI.cellS hS).trans hy) ?_
  refine pJ gz kM (IntWalk.i64_in _ (by omega)) ?_
  refine Iq hn ?_
  exact ⟨_,_,_,rfl,hI,Ext.refl _ _ _,rfl,rfl,y % n,Nat.mod_lt _ hn,rfl⟩
 ·obtain ⟨i1,hd1⟩:∃ i1,i1=p % ys.length:=⟨_,rfl⟩
  obtain ⟨i2,hd2⟩:∃ i2,i2=(p * 7+3) % ys.length:=⟨_,rfl⟩
  obtain ⟨q,hdq⟩:∃ q,q=p / ys.length:=⟨_,rfl⟩
  have hi1:i1<ys.length:=by rw [hd1]; exact Nat.mod_lt _ h0
  have hi2:i2<ys.length:=by rw [hd2]; exact Nat.mod_lt _ h0
  have hq:q<=p:=by rw [hdq]; exact Nat.div_le_self ..
  obtain ⟨y1,hv1,hy1⟩:=hc i1 hi1
  obtain ⟨y2,hv2,hy2⟩:=hc i2 hi2
  skip
  refine ⟨fun D x6 j3 j2 jU jT jV jX j4 jY jS j1 j5 jR j7 jW gc f3 eY fb eW fa eX e9 eZ fR fP eM cG cL ch cM cP cR cN cS cQ cO dj cZ dt cY cX cW cU bV bW w_=>(D 0=true->bW=.pointer (some ⟨br,0,none⟩))/\(D 1=true->bV=.pointer (some ⟨br,0,none⟩))/\(D 2=true->cU=.pointer (some ⟨br,0,none⟩))/\(D 3=true->cW=.slice (some ⟨b,o,none⟩) ys.length cap)/\(D 4=true->cX=.int .i64 (p:Int))/\(D 5=true->cY=.pointer (some ⟨br,0,none⟩))/\(D 6=true->dt=.pointer (some ⟨br,0,none⟩))/\(D 7=true->cZ=.pointer (some ⟨br,0,none⟩))/\(D 8=true->dj=.slice (some ⟨b,o,none⟩) ys.length cap)/\(D 9=true->cO=.int .i64 (ys.length:Int))/\(D 10=true->cQ=.int .i64 (((i1:Nat):Int)))/\(D 11=true->cS=.pointer (some ⟨b,o+i1 * 1,none⟩))/\(D 12=true->cN=.int .u8 ((y1:Nat):Int))/\(D 13=true->cR=.int .i64 (((y1:Nat):Int)))/\(D 14=true->cP=.int .i64 ((((y1:Nat):Int) * 131)))/\(D 15=true->cM=.pointer (some ⟨br,0,none⟩))/\(D 16=true->ch=.pointer (some ⟨br,0,none⟩))/\(D 17=true->cL=.pointer (some ⟨br,0,none⟩))/\(D 18=true->cG=.slice (some ⟨b,o,none⟩) ys.length cap)/\(D 19=true->eM=.int .i64 (p:Int))/\(D 20=true->fP=.int .i64 (((p:Int) * 7)))/\(D 21=true->fR=.int .i64 ((((p:Int) * 7)+3)))/\(D 22=true->eZ=.pointer (some ⟨br,0,none⟩))/\(D 23=true->e9=.pointer (some ⟨br,0,none⟩))/\(D 24=true->eX=.pointer (some ⟨br,0,none⟩))/\(D 25=true->fa=.slice (some ⟨b,o,none⟩) ys.length cap)/\(D 26=true->eW=.int .i64 (ys.length:Int))/\(D 27=true->fb=.int .i64 (((i2:Nat):Int)))/\(D 28=true->eY=.pointer (some ⟨b,o+i2 * 1,none⟩))/\(D 29=true->f3=.int .u8 ((y2:Nat):Int))/\(D 30=true->gc=.int .i64 (((y2:Nat):Int)))/\(D 31=true->jW=.int .i64 ((((y2:Nat):Int) * 1117)))/\(D 32=true->j7=.int .i64 (((((y1:Nat):Int) * 131)+(((y2:Nat):Int) * 1117))))/\(D 33=true->jR=.int .i64 (p:Int))/\(D 34=true->j5=.int .i64 (((p:Int) * 29)))/\(D 35=true->j1=.int .i64 ((((((y1:Nat):Int) * 131)+(((y2:Nat):Int) * 1117))+((p:Int) * 29))))/\(D 36=true->jS=.int .i64 (p:Int))/\(D 37=true->jY=.pointer (some ⟨br,0,none⟩))/\(D 38=true->j4=.pointer (some ⟨br,0,none⟩))/\(D 39=true->jX=.pointer (some ⟨br,0,none⟩))/\(D 40=true->jV=.slice (some ⟨b,o,none⟩) ys.length cap)/\(D 41=true->jT=.int .i64 (ys.length:Int))/\(D 42=true->jU=.int .i64 (((q:Nat):Int)))/\(D 43=true->j2=.int .i64 ((((q:Nat):Int) * 53)))/\(D 44=true->j3=.int .i64 (((((((y1:Nat):Int) * 131)+(((y2:Nat):Int) * 1117))+((p:Int) * 29))+(((q:Nat):Int) * 53))))/\(D 45=true->x6=.int .i64 (((((((y1:Nat):Int) * 131)+(((y2:Nat):Int) * 1117))+((p:Int) * 29))+(((q:Nat):Int) * 53))))/\Inv w X [rdI br (.slice (some ⟨b,o,none⟩) ys.length cap) (p+1)] S w_,⟨ae,ae,ae,ae,ae,ae,ae,ae,ae,ae,ae,ae,ae,ae,ae,ae,ae,ae,ae,ae,ae,ae,ae,ae,ae,ae,ae,ae,ae,ae,ae,ae,ae,ae,ae,ae,ae,ae,ae,ae,ae,ae,ae,ae,ae,ae,hI.draw⟩,⟨?_,?_,?_,?_,?_,?_,?_,?_,?_,?_,?_,?_,?_,?_,?_,?_,?_,?_,?_,?_,?_,?_,?_,?_,?_,?_,?_,?_,?_,?_,?_,?_,?_,?_,?_,?_,?_,?_,?_,?_,?_,?_,?_,?_,?_,?_,trivial⟩,?_⟩
  ·intro D aY  x6 j3 j2 jU jT jV jX j4 jY jS j1 j5 jR j7 jW gc f3 eY fb eW fa eX e9 eZ fR fP eM cG cL ch cM cP cR cN cS cQ cO dj cZ dt cY cX cW cU bV bW w_
   rintro ⟨az,ay,aA,aB,aw,aD,aE,aI,aL,aP,aj,ao,aH,aM,aO,aN,aV,aU,aW,aX,a6,a5,a4,aZ,a8,bz,bA,bB,bx,bC,cA,ct,co,cn,cj,cv,cw,cu,cD,cB,cq,cm,cC,cz,cr,cE,hI⟩
   exact ⟨fun _=>rfl,ay,aA,aB,aw,aD,aE,aI,aL,aP,aj,ao,aH,aM,aO,aN,aV,aU,aW,aX,a6,a5,a4,aZ,a8,bz,bA,bB,bx,bC,cA,ct,co,cn,cj,cv,cw,cu,cD,cB,cq,cm,cC,cz,cr,cE,hI⟩
  ·intro D aY ce x6 j3 j2 jU jT jV jX j4 jY jS j1 j5 jR j7 jW gc f3 eY fb eW fa eX e9 eZ fR fP eM cG cL ch cM cP cR cN cS cQ cO dj cZ dt cY cX cW cU bV bW w_
   rintro ⟨az,ay,aA,aB,aw,aD,aE,aI,aL,aP,aj,ao,aH,aM,aO,aN,aV,aU,aW,aX,a6,a5,a4,aZ,a8,bz,bA,bB,bx,bC,cA,ct,co,cn,cj,cv,cw,cu,cD,cB,cq,cm,cC,cz,cr,cE,hI⟩
   obtain rfl:=az ce
   refine d6 ?_
   exact ⟨az,fun _=>rfl,aA,aB,aw,aD,aE,aI,aL,aP,aj,ao,aH,aM,aO,aN,aV,aU,aW,aX,a6,a5,a4,aZ,a8,bz,bA,bB,bx,bC,cA,ct,co,cn,cj,cv,cw,cu,cD,cB,cq,cm,cC,cz,cr,cE,hI⟩
  ·intro D aY dI x6 j3 j2 jU jT jV jX j4 jY jS j1 j5 jR j7 jW gc f3 eY fb eW fa eX e9 eZ fR fP eM cG cL ch cM cP cR cN cS cQ cO dj cZ dt cY cX cW cU bV bW w_
   rintro ⟨az,ay,aA,aB,aw,aD,aE,aI,aL,aP,aj,ao,aH,aM,aO,aN,aV,aU,aW,aX,a6,a5,a4,aZ,a8,bz,bA,bB,bx,bC,cA,ct,co,cn,cj,cv,cw,cu,cD,cB,cq,cm,cC,cz,cr,cE,hI⟩
   obtain rfl:=ay dI
   refine bg fO ?_
   exact ⟨az,ay,fun _=>rfl,aB,aw,aD,aE,aI,aL,aP,aj,ao,aH,aM,aO,aN,aV,aU,aW,aX,a6,a5,a4,aZ,a8,bz,bA,bB,bx,bC,cA,ct,co,cn,cj,cv,cw,cu,cD,cB,cq,cm,cC,cz,cr,cE,hI⟩
  ·intro D aY ev x6 j3 j2 jU jT jV jX j4 jY jS j1 j5 jR j7 jW gc f3 eY fb eW fa eX e9 eZ fR fP eM cG cL ch cM cP cR cN cS cQ cO dj cZ dt cY cX cW cU bV bW w_
   rintro ⟨az,ay,aA,aB,aw,aD,aE,aI,aL,aP,aj,ao,aH,aM,aO,aN,aV,aU,aW,aX,a6,a5,a4,aZ,a8,bz,bA,bB,bx,bC,cA,ct,co,cn,cj,cv,cw,cu,cD,cB,cq,cm,cC,cz,cr,cE,hI⟩
   obtain rfl:=aA ev
   refine bE hI 0 g9 rfl rfl ?_
   exact ⟨az,ay,aA,fun _=>rfl,aw,aD,aE,aI,aL,aP,aj,ao,aH,aM,aO,aN,aV,aU,aW,aX,a6,a5,a4,aZ,a8,bz,bA,bB,bx,bC,cA,ct,co,cn,cj,cv,cw,cu,cD,cB,cq,cm,cC,cz,cr,cE,hI⟩
  ·intro D aY  x6 j3 j2 jU jT jV jX j4 jY jS j1 j5 jR j7 jW gc f3 eY fb eW fa eX e9 eZ fR fP eM cG cL ch cM cP cR cN cS cQ cO dj cZ dt cY cX cW cU bV bW w_
   rintro ⟨az,ay,aA,aB,aw,aD,aE,aI,aL,aP,aj,ao,aH,aM,aO,aN,aV,aU,aW,aX,a6,a5,a4,aZ,a8,bz,bA,bB,bx,bC,cA,ct,co,cn,cj,cv,cw,cu,cD,cB,cq,cm,cC,cz,cr,cE,hI⟩
   exact ⟨az,ay,aA,aB,fun _=>rfl,aD,aE,aI,aL,aP,aj,ao,aH,aM,aO,aN,aV,aU,aW,aX,a6,a5,a4,aZ,a8,bz,bA,bB,bx,bC,cA,ct,co,cn,cj,cv,cw,cu,cD,cB,cq,cm,cC,cz,cr,cE,hI⟩
  ·intro D aY  x6 j3 j2 jU jT jV jX j4 jY jS j1 j5 jR j7 jW gc f3 eY fb eW fa eX e9 eZ fR fP eM cG cL ch cM cP cR cN cS cQ cO dj cZ dt cY cX cW cU bV bW w_
   rintro ⟨az,ay,aA,aB,aw,aD,aE,aI,aL,aP,aj,ao,aH,aM,aO,aN,aV,aU,aW,aX,a6,a5,a4,aZ,a8,bz,bA,bB,bx,bC,cA,ct,co,cn,cj,cv,cw,cu,cD,cB,cq,cm,cC,cz,cr,cE,hI⟩
   exact ⟨az,ay,aA,aB,aw,fun _=>rfl,aE,aI,aL,aP,aj,ao,aH,aM,aO,aN,aV,aU,aW,aX,a6,a5,a4,aZ,a8,bz,bA,bB,bx,bC,cA,ct,co,cn,cj,cv,cw,cu,cD,cB,cq,cm,cC,cz,cr,cE,hI⟩
  ·intro D aY dV x6 j3 j2 jU jT jV jX j4 jY jS j1 j5 jR j7 jW gc f3 eY fb eW fa eX e9 eZ fR fP eM cG cL ch cM cP cR cN cS cQ cO dj cZ dt cY cX cW cU bV bW w_
   rintro ⟨az,ay,aA,aB,aw,aD,aE,aI,aL,aP,aj,ao,aH,aM,aO,aN,aV,aU,aW,aX,a6,a5,a4,aZ,a8,bz,bA,bB,bx,bC,cA,ct,co,cn,cj,cv,cw,cu,cD,cB,cq,cm,cC,cz,cr,cE,hI⟩
   obtain rfl:=aD dV
   refine d6 ?_
   exact ⟨az,ay,aA,aB,aw,aD,fun _=>rfl,aI,aL,aP,aj,ao,aH,aM,aO,aN,aV,aU,aW,aX,a6,a5,a4,aZ,a8,bz,bA,bB,bx,bC,cA,ct,co,cn,cj,cv,cw,cu,cD,cB,cq,cm,cC,cz,cr,cE,hI⟩
  ·intro D aY c9 x6 j3 j2 jU jT jV jX j4 jY jS j1 j5 jR j7 jW gc f3 eY fb eW fa eX e9 eZ fR fP eM cG cL ch cM cP cR cN cS cQ cO dj cZ dt cY cX cW cU bV bW w_
   rintro ⟨az,ay,aA,aB,aw,aD,aE,aI,aL,aP,aj,ao,aH,aM,aO,aN,aV,aU,aW,aX,a6,a5,a4,aZ,a8,bz,bA,bB,bx,bC,cA,ct,co,cn,cj,cv,cw,cu,cD,cB,cq,cm,cC,cz,cr,cE,hI⟩
   obtain rfl:=aE c9
   refine bg fO ?_
   exact ⟨az,ay,aA,aB,aw,aD,aE,fun _=>rfl,aL,aP,aj,ao,aH,aM,aO,aN,aV,aU,aW,aX,a6,a5,a4,aZ,a8,bz,bA,bB,bx,bC,cA,ct,co,cn,cj,cv,cw,cu,cD,cB,cq,cm,cC,cz,cr,cE,hI⟩
  ·intro D aY el x6 j3 j2 jU jT jV jX j4 jY jS j1 j5 jR j7 jW gc f3 eY fb eW fa eX e9 eZ fR fP eM cG cL ch cM cP cR cN cS cQ cO dj cZ dt cY cX cW cU bV bW w_
   rintro ⟨az,ay,aA,aB,aw,aD,aE,aI,aL,aP,aj,ao,aH,aM,aO,aN,aV,aU,aW,aX,a6,a5,a4,aZ,a8,bz,bA,bB,bx,bC,cA,ct,co,cn,cj,cv,cw,cu,cD,cB,cq,cm,cC,cz,cr,cE,hI⟩
   obtain rfl:=aI el
   refine bE hI 0 g9 rfl rfl ?_
   exact ⟨az,ay,aA,aB,aw,aD,aE,aI,fun _=>rfl,aP,aj,ao,aH,aM,aO,aN,aV,aU,aW,aX,a6,a5,a4,aZ,a8,bz,bA,bB,bx,bC,cA,ct,co,cn,cj,cv,cw,cu,cD,cB,cq,cm,cC,cz,cr,cE,hI⟩
  ·intro D aY iM x6 j3 j2 jU jT jV jX j4 jY jS j1 j5 jR j7 jW gc f3 eY fb eW fa eX e9 eZ fR fP eM cG cL ch cM cP cR cN cS cQ cO dj cZ dt cY cX cW cU bV bW w_
   rintro ⟨az,ay,aA,aB,aw,aD,aE,aI,aL,aP,aj,ao,aH,aM,aO,aN,aV,aU,aW,aX,a6,a5,a4,aZ,a8,bz,bA,bB,bx,bC,cA,ct,co,cn,cj,cv,cw,cu,cD,cB,cq,cm,cC,cz,cr,cE,hI⟩
   obtain rfl:=aL iM
   refine gD dU ?_
   exact ⟨az,ay,aA,aB,aw,aD,aE,aI,aL,fun _=>rfl,aj,ao,aH,aM,aO,aN,aV,aU,aW,aX,a6,a5,a4,aZ,a8,bz,bA,bB,bx,bC,cA,ct,co,cn,cj,cv,cw,cu,cD,cB,cq,cm,cC,cz,cr,cE,hI⟩
  ·intro D aY cK fw x6 j3 j2 jU jT jV jX j4 jY jS j1 j5 jR j7 jW gc f3 eY fb eW fa eX e9 eZ fR fP eM cG cL ch cM cP cR cN cS cQ cO dj cZ dt cY cX cW cU bV bW w_
   rintro ⟨az,ay,aA,aB,aw,aD,aE,aI,aL,aP,aj,ao,aH,aM,aO,aN,aV,aU,aW,aX,a6,a5,a4,aZ,a8,bz,bA,bB,bx,bC,cA,ct,co,cn,cj,cv,cw,cu,cD,cB,cq,cm,cC,cz,cr,cE,hI⟩
   obtain rfl:=aw cK
   obtain rfl:=aP fw
   refine KH (a:=p) (b:=ys.length) (by omega) rfl h0 ?_; rw [<- hd1]
   exact ⟨az,ay,aA,aB,aw,aD,aE,aI,aL,aP,fun _=>rfl,ao,aH,aM,aO,aN,aV,aU,aW,aX,a6,a5,a4,aZ,a8,bz,bA,bB,bx,bC,cA,ct,co,cn,cj,cv,cw,cu,cD,cB,cq,cm,cC,cz,cr,cE,hI⟩
  ·intro D aY dF mQ x6 j3 j2 jU jT jV jX j4 jY jS j1 j5 jR j7 jW gc f3 eY fb eW fa eX e9 eZ fR fP eM cG cL ch cM cP cR cN cS cQ cO dj cZ dt cY cX cW cU bV bW w_
   rintro ⟨az,ay,aA,aB,aw,aD,aE,aI,aL,aP,aj,ao,aH,aM,aO,aN,aV,aU,aW,aX,a6,a5,a4,aZ,a8,bz,bA,bB,bx,bC,cA,ct,co,cn,cj,cv,cw,cu,cD,cB,cq,cm,cC,cz,cr,cE,hI⟩
   obtain rfl:=aB dF
   obtain rfl:=aj mQ
   refine bh dU hi1 ?_
   exact ⟨az,ay,aA,aB,aw,aD,aE,aI,aL,aP,aj,fun _=>rfl,aH,aM,aO,aN,aV,aU,aW,aX,a6,a5,a4,aZ,a8,bz,bA,bB,bx,bC,cA,ct,co,cn,cj,cv,cw,cu,cD,cB,cq,cm,cC,cz,cr,cE,hI⟩
  ·intro D aY hZ x6 j3 j2 jU jT jV jX j4 jY jS j1 j5 jR j7 jW gc f3 eY fb eW fa eX e9 eZ fR fP eM cG cL ch cM cP cR cN cS cQ cO dj cZ dt cY cX cW cU bV bW w_
   rintro ⟨az,ay,aA,aB,aw,aD,aE,aI,aL,aP,aj,ao,aH,aM,aO,aN,aV,aU,aW,aX,a6,a5,a4,aZ,a8,bz,bA,bB,bx,bC,cA,ct,co,cn,cj,cv,cw,cu,cD,cB,cq,cm,cC,cz,cr,cE,hI⟩
   obtain rfl:=ao hZ
   refine dM At ((hI.cellS hS).trans hv1) ?_
   exact ⟨az,ay,aA,aB,aw,aD,aE,aI,aL,aP,aj,ao,fun _=>rfl,aM,aO,aN,aV,aU,aW,aX,a6,a5,a4,aZ,a8,bz,bA,bB,bx,bC,cA,ct,co,cn,cj,cv,cw,cu,cD,cB,cq,cm,cC,cz,cr,cE,hI⟩
  ·intro D aY lp x6 j3 j2 jU jT jV jX j4 jY jS j1 j5 jR j7 jW gc f3 eY fb eW fa eX e9 eZ fR fP eM cG cL ch cM cP cR cN cS cQ cO dj cZ dt cY cX cW cU bV bW w_
   rintro ⟨az,ay,aA,aB,aw,aD,aE,aI,aL,aP,aj,ao,aH,aM,aO,aN,aV,aU,aW,aX,a6,a5,a4,aZ,a8,bz,bA,bB,bx,bC,cA,ct,co,cn,cj,cv,cw,cu,cD,cB,cq,cm,cC,cz,cr,cE,hI⟩
   obtain rfl:=aH lp
   refine pJ gz kM (IntWalk.i64_in _ (by omega)) ?_
   exact ⟨az,ay,aA,aB,aw,aD,aE,aI,aL,aP,aj,ao,aH,fun _=>rfl,aO,aN,aV,aU,aW,aX,a6,a5,a4,aZ,a8,bz,bA,bB,bx,bC,cA,ct,co,cn,cj,cv,cw,cu,cD,cB,cq,cm,cC,cz,cr,cE,hI⟩
  ·intro D aY iq x6 j3 j2 jU jT jV jX j4 jY jS j1 j5 jR j7 jW gc f3 eY fb eW fa eX e9 eZ fR fP eM cG cL ch cM cP cR cN cS cQ cO dj cZ dt cY cX cW cU bV bW w_
   rintro ⟨az,ay,aA,aB,aw,aD,aE,aI,aL,aP,aj,ao,aH,aM,aO,aN,aV,aU,aW,aX,a6,a5,a4,aZ,a8,bz,bA,bB,bx,bC,cA,ct,co,cn,cj,cv,cw,cu,cD,cB,cq,cm,cC,cz,cr,cE,hI⟩
   obtain rfl:=aM iq
   refine Dx (by omega) ?_
   exact ⟨az,ay,aA,aB,aw,aD,aE,aI,aL,aP,aj,ao,aH,aM,fun _=>rfl,aN,aV,aU,aW,aX,a6,a5,a4,aZ,a8,bz,bA,bB,bx,bC,cA,ct,co,cn,cj,cv,cw,cu,cD,cB,cq,cm,cC,cz,cr,cE,hI⟩
  ·intro D aY  x6 j3 j2 jU jT jV jX j4 jY jS j1 j5 jR j7 jW gc f3 eY fb eW fa eX e9 eZ fR fP eM cG cL ch cM cP cR cN cS cQ cO dj cZ dt cY cX cW cU bV bW w_
   rintro ⟨az,ay,aA,aB,aw,aD,aE,aI,aL,aP,aj,ao,aH,aM,aO,aN,aV,aU,aW,aX,a6,a5,a4,aZ,a8,bz,bA,bB,bx,bC,cA,ct,co,cn,cj,cv,cw,cu,cD,cB,cq,cm,cC,cz,cr,cE,hI⟩
   exact ⟨az,ay,aA,aB,aw,aD,aE,aI,aL,aP,aj,ao,aH,aM,aO,fun _=>rfl,aV,aU,aW,aX,a6,a5,a4,aZ,a8,bz,bA,bB,bx,bC,cA,ct,co,cn,cj,cv,cw,cu,cD,cB,cq,cm,cC,cz,cr,cE,hI⟩
  ·intro D aY zN x6 j3 j2 jU jT jV jX j4 jY jS j1 j5 jR j7 jW gc f3 eY fb eW fa eX e9 eZ fR fP eM cG cL ch cM cP cR cN cS cQ cO dj cZ dt cY cX cW cU bV bW w_
   rintro ⟨az,ay,aA,aB,aw,aD,aE,aI,aL,aP,aj,ao,aH,aM,aO,aN,aV,aU,aW,aX,a6,a5,a4,aZ,a8,bz,bA,bB,bx,bC,cA,ct,co,cn,cj,cv,cw,cu,cD,cB,cq,cm,cC,cz,cr,cE,hI⟩
   obtain rfl:=aN zN
   refine d6 ?_
   exact ⟨az,ay,aA,aB,aw,aD,aE,aI,aL,aP,aj,ao,aH,aM,aO,aN,fun _=>rfl,aU,aW,aX,a6,a5,a4,aZ,a8,bz,bA,bB,bx,bC,cA,ct,co,cn,cj,cv,cw,cu,cD,cB,cq,cm,cC,cz,cr,cE,hI⟩
  ·intro D aY P4 x6 j3 j2 jU jT jV jX j4 jY jS j1 j5 jR j7 jW gc f3 eY fb eW fa eX e9 eZ fR fP eM cG cL ch cM cP cR cN cS cQ cO dj cZ dt cY cX cW cU bV bW w_
   rintro ⟨az,ay,aA,aB,aw,aD,aE,aI,aL,aP,aj,ao,aH,aM,aO,aN,aV,aU,aW,aX,a6,a5,a4,aZ,a8,bz,bA,bB,bx,bC,cA,ct,co,cn,cj,cv,cw,cu,cD,cB,cq,cm,cC,cz,cr,cE,hI⟩
   obtain rfl:=aV P4
   refine bg fO ?_
   exact ⟨az,ay,aA,aB,aw,aD,aE,aI,aL,aP,aj,ao,aH,aM,aO,aN,aV,fun _=>rfl,aW,aX,a6,a5,a4,aZ,a8,bz,bA,bB,bx,bC,cA,ct,co,cn,cj,cv,cw,cu,cD,cB,cq,cm,cC,cz,cr,cE,hI⟩
  ·intro D aY Ht x6 j3 j2 jU jT jV jX j4 jY jS j1 j5 jR j7 jW gc f3 eY fb eW fa eX e9 eZ fR fP eM cG cL ch cM cP cR cN cS cQ cO dj cZ dt cY cX cW cU bV bW w_
   rintro ⟨az,ay,aA,aB,aw,aD,aE,aI,aL,aP,aj,ao,aH,aM,aO,aN,aV,aU,aW,aX,a6,a5,a4,aZ,a8,bz,bA,bB,bx,bC,cA,ct,co,cn,cj,cv,cw,cu,cD,cB,cq,cm,cC,cz,cr,cE,hI⟩
   obtain rfl:=aU Ht
   refine bE hI 0 g9 rfl rfl ?_
   exact ⟨az,ay,aA,aB,aw,aD,aE,aI,aL,aP,aj,ao,aH,aM,aO,aN,aV,aU,fun _=>rfl,aX,a6,a5,a4,aZ,a8,bz,bA,bB,bx,bC,cA,ct,co,cn,cj,cv,cw,cu,cD,cB,cq,cm,cC,cz,cr,cE,hI⟩
  ·intro D aY  x6 j3 j2 jU jT jV jX j4 jY jS j1 j5 jR j7 jW gc f3 eY fb eW fa eX e9 eZ fR fP eM cG cL ch cM cP cR cN cS cQ cO dj cZ dt cY cX cW cU bV bW w_
   rintro ⟨az,ay,aA,aB,aw,aD,aE,aI,aL,aP,aj,ao,aH,aM,aO,aN,aV,aU,aW,aX,a6,a5,a4,aZ,a8,bz,bA,bB,bx,bC,cA,ct,co,cn,cj,cv,cw,cu,cD,cB,cq,cm,cC,cz,cr,cE,hI⟩
   exact ⟨az,ay,aA,aB,aw,aD,aE,aI,aL,aP,aj,ao,aH,aM,aO,aN,aV,aU,aW,fun _=>rfl,a6,a5,a4,aZ,a8,bz,bA,bB,bx,bC,cA,ct,co,cn,cj,cv,cw,cu,cD,cB,cq,cm,cC,cz,cr,cE,hI⟩
  ·intro D aY gU x6 j3 j2 jU jT jV jX j4 jY jS j1 j5 jR j7 jW gc f3 eY fb eW fa eX e9 eZ fR fP eM cG cL ch cM cP cR cN cS cQ cO dj cZ dt cY cX cW cU bV bW w_
   rintro ⟨az,ay,aA,aB,aw,aD,aE,aI,aL,aP,aj,ao,aH,aM,aO,aN,aV,aU,aW,aX,a6,a5,a4,aZ,a8,bz,bA,bB,bx,bC,cA,ct,co,cn,cj,cv,cw,cu,cD,cB,cq,cm,cC,cz,cr,cE,hI⟩
   obtain rfl:=aX gU
   refine Dx (by omega) ?_
   exact ⟨az,ay,aA,aB,aw,aD,aE,aI,aL,aP,aj,ao,aH,aM,aO,aN,aV,aU,aW,aX,fun _=>rfl,a5,a4,aZ,a8,bz,bA,bB,bx,bC,cA,ct,co,cn,cj,cv,cw,cu,cD,cB,cq,cm,cC,cz,cr,cE,hI⟩
  ·intro D aY z5 x6 j3 j2 jU jT jV jX j4 jY jS j1 j5 jR j7 jW gc f3 eY fb eW fa eX e9 eZ fR fP eM cG cL ch cM cP cR cN cS cQ cO dj cZ dt cY cX cW cU bV bW w_
   rintro ⟨az,ay,aA,aB,aw,aD,aE,aI,aL,aP,aj,ao,aH,aM,aO,aN,aV,aU,aW,aX,a6,a5,a4,aZ,a8,bz,bA,bB,bx,bC,cA,ct,co,cn,cj,cv,cw,cu,cD,cB,cq,cm,cC,cz,cr,cE,hI⟩
   obtain rfl:=a6 z5
   refine bP (by omega) ?_
   exact ⟨az,ay,aA,aB,aw,aD,aE,aI,aL,aP,aj,ao,aH,aM,aO,aN,aV,aU,aW,aX,a6,fun _=>rfl,a4,aZ,a8,bz,bA,bB,bx,bC,cA,ct,co,cn,cj,cv,cw,cu,cD,cB,cq,cm,cC,cz,cr,cE,hI⟩
  ·intro D aY  x6 j3 j2 jU jT jV jX j4 jY jS j1 j5 jR j7 jW gc f3 eY fb eW fa eX e9 eZ fR fP eM cG cL ch cM cP cR cN cS cQ cO dj cZ dt cY cX cW cU bV bW w_
   rintro ⟨az,ay,aA,aB,aw,aD,aE,aI,aL,aP,aj,ao,aH,aM,aO,aN,aV,aU,aW,aX,a6,a5,a4,aZ,a8,bz,bA,bB,bx,bC,cA,ct,co,cn,cj,cv,cw,cu,cD,cB,cq,cm,cC,cz,cr,cE,hI⟩
   exact ⟨az,ay,aA,aB,aw,aD,aE,aI,aL,aP,aj,ao,aH,aM,aO,aN,aV,aU,aW,aX,a6,a5,fun _=>rfl,aZ,a8,bz,bA,bB,bx,bC,cA,ct,co,cn,cj,cv,cw,cu,cD,cB,cq,cm,cC,cz,cr,cE,hI⟩
  ·intro D aY M3 x6 j3 j2 jU jT jV jX j4 jY jS j1 j5 jR j7 jW gc f3 eY fb eW fa eX e9 eZ fR fP eM cG cL ch cM cP cR cN cS cQ cO dj cZ dt cY cX cW cU bV bW w_
   rintro ⟨az,ay,aA,aB,aw,aD,aE,aI,aL,aP,aj,ao,aH,aM,aO,aN,aV,aU,aW,aX,a6,a5,a4,aZ,a8,bz,bA,bB,bx,bC,cA,ct,co,cn,cj,cv,cw,cu,cD,cB,cq,cm,cC,cz,cr,cE,hI⟩
   obtain rfl:=a4 M3
   refine d6 ?_
   exact ⟨az,ay,aA,aB,aw,aD,aE,aI,aL,aP,aj,ao,aH,aM,aO,aN,aV,aU,aW,aX,a6,a5,a4,fun _=>rfl,a8,bz,bA,bB,bx,bC,cA,ct,co,cn,cj,cv,cw,cu,cD,cB,cq,cm,cC,cz,cr,cE,hI⟩
  ·intro D aY Nl x6 j3 j2 jU jT jV jX j4 jY jS j1 j5 jR j7 jW gc f3 eY fb eW fa eX e9 eZ fR fP eM cG cL ch cM cP cR cN cS cQ cO dj cZ dt cY cX cW cU bV bW w_
   rintro ⟨az,ay,aA,aB,aw,aD,aE,aI,aL,aP,aj,ao,aH,aM,aO,aN,aV,aU,aW,aX,a6,a5,a4,aZ,a8,bz,bA,bB,bx,bC,cA,ct,co,cn,cj,cv,cw,cu,cD,cB,cq,cm,cC,cz,cr,cE,hI⟩
   obtain rfl:=aZ Nl
   refine bg fO ?_
   exact ⟨az,ay,aA,aB,aw,aD,aE,aI,aL,aP,aj,ao,aH,aM,aO,aN,aV,aU,aW,aX,a6,a5,a4,aZ,fun _=>rfl,bz,bA,bB,bx,bC,cA,ct,co,cn,cj,cv,cw,cu,cD,cB,cq,cm,cC,cz,cr,cE,hI⟩
  ·intro D aY N4 x6 j3 j2 jU jT jV jX j4 jY jS j1 j5 jR j7 jW gc f3 eY fb eW fa eX e9 eZ fR fP eM cG cL ch cM cP cR cN cS cQ cO dj cZ dt cY cX cW cU bV bW w_
   rintro ⟨az,ay,aA,aB,aw,aD,aE,aI,aL,aP,aj,ao,aH,aM,aO,aN,aV,aU,aW,aX,a6,a5,a4,aZ,a8,bz,bA,bB,bx,bC,cA,ct,co,cn,cj,cv,cw,cu,cD,cB,cq,cm,cC,cz,cr,cE,hI⟩
   obtain rfl:=a8 N4
   refine bE hI 0 g9 rfl rfl ?_
   exact ⟨az,ay,aA,aB,aw,aD,aE,aI,aL,aP,aj,ao,aH,aM,aO,aN,aV,aU,aW,aX,a6,a5,a4,aZ,a8,fun _=>rfl,bA,bB,bx,bC,cA,ct,co,cn,cj,cv,cw,cu,cD,cB,cq,cm,cC,cz,cr,cE,hI⟩
  ·intro D aY PK x6 j3 j2 jU jT jV jX j4 jY jS j1 j5 jR j7 jW gc f3 eY fb eW fa eX e9 eZ fR fP eM cG cL ch cM cP cR cN cS cQ cO dj cZ dt cY cX cW cU bV bW w_
   rintro ⟨az,ay,aA,aB,aw,aD,aE,aI,aL,aP,aj,ao,aH,aM,aO,aN,aV,aU,aW,aX,a6,a5,a4,aZ,a8,bz,bA,bB,bx,bC,cA,ct,co,cn,cj,cv,cw,cu,cD,cB,cq,cm,cC,cz,cr,cE,hI⟩
   obtain rfl:=bz PK
   refine gD dU ?_
   exact ⟨az,ay,aA,aB,aw,aD,aE,aI,aL,aP,aj,ao,aH,aM,aO,aN,aV,aU,aW,aX,a6,a5,a4,aZ,a8,bz,fun _=>rfl,bB,bx,bC,cA,ct,co,cn,cj,cv,cw,cu,cD,cB,cq,cm,cC,cz,cr,cE,hI⟩
  ·intro D aY zC O2 x6 j3 j2 jU jT jV jX j4 jY jS j1 j5 jR j7 jW gc f3 eY fb eW fa eX e9 eZ fR fP eM cG cL ch cM cP cR cN cS cQ cO dj cZ dt cY cX cW cU bV bW w_
   rintro ⟨az,ay,aA,aB,aw,aD,aE,aI,aL,aP,aj,ao,aH,aM,aO,aN,aV,aU,aW,aX,a6,a5,a4,aZ,a8,bz,bA,bB,bx,bC,cA,ct,co,cn,cj,cv,cw,cu,cD,cB,cq,cm,cC,cz,cr,cE,hI⟩
   obtain rfl:=a5 zC
   obtain rfl:=bA O2
   refine KH (a:=p * 7+3) (b:=ys.length) (by omega) rfl h0 ?_; rw [<- hd2]
   exact ⟨az,ay,aA,aB,aw,aD,aE,aI,aL,aP,aj,ao,aH,aM,aO,aN,aV,aU,aW,aX,a6,a5,a4,aZ,a8,bz,bA,fun _=>rfl,bx,bC,cA,ct,co,cn,cj,cv,cw,cu,cD,cB,cq,cm,cC,cz,cr,cE,hI⟩
  ·intro D aY tS PZ x6 j3 j2 jU jT jV jX j4 jY jS j1 j5 jR j7 jW gc f3 eY fb eW fa eX e9 eZ fR fP eM cG cL ch cM cP cR cN cS cQ cO dj cZ dt cY cX cW cU bV bW w_
   rintro ⟨az,ay,aA,aB,aw,aD,aE,aI,aL,aP,aj,ao,aH,aM,aO,aN,aV,aU,aW,aX,a6,a5,a4,aZ,a8,bz,bA,bB,bx,bC,cA,ct,co,cn,cj,cv,cw,cu,cD,cB,cq,cm,cC,cz,cr,cE,hI⟩
   obtain rfl:=aW tS
   obtain rfl:=bB PZ
   refine bh dU hi2 ?_
   exact ⟨az,ay,aA,aB,aw,aD,aE,aI,aL,aP,aj,ao,aH,aM,aO,aN,aV,aU,aW,aX,a6,a5,a4,aZ,a8,bz,bA,bB,fun _=>rfl,bC,cA,ct,co,cn,cj,cv,cw,cu,cD,cB,cq,cm,cC,cz,cr,cE,hI⟩
  ·intro D aY N5 x6 j3 j2 jU jT jV jX j4 jY jS j1 j5 jR j7 jW gc f3 eY fb eW fa eX e9 eZ fR fP eM cG cL ch cM cP cR cN cS cQ cO dj cZ dt cY cX cW cU bV bW w_
   rintro ⟨az,ay,aA,aB,aw,aD,aE,aI,aL,aP,aj,ao,aH,aM,aO,aN,aV,aU,aW,aX,a6,a5,a4,aZ,a8,bz,bA,bB,bx,bC,cA,ct,co,cn,cj,cv,cw,cu,cD,cB,cq,cm,cC,cz,cr,cE,hI⟩
   obtain rfl:=bx N5
   refine dM At ((hI.cellS hS).trans hv2) ?_
   exact ⟨az,ay,aA,aB,aw,aD,aE,aI,aL,aP,aj,ao,aH,aM,aO,aN,aV,aU,aW,aX,a6,a5,a4,aZ,a8,bz,bA,bB,bx,fun _=>rfl,cA,ct,co,cn,cj,cv,cw,cu,cD,cB,cq,cm,cC,cz,cr,cE,hI⟩
  ·intro D aY Qc x6 j3 j2 jU jT jV jX j4 jY jS j1 j5 jR j7 jW gc f3 eY fb eW fa eX e9 eZ fR fP eM cG cL ch cM cP cR cN cS cQ cO dj cZ dt cY cX cW cU bV bW w_
   rintro ⟨az,ay,aA,aB,aw,aD,aE,aI,aL,aP,aj,ao,aH,aM,aO,aN,aV,aU,aW,aX,a6,a5,a4,aZ,a8,bz,bA,bB,bx,bC,cA,ct,co,cn,cj,cv,cw,cu,cD,cB,cq,cm,cC,cz,cr,cE,hI⟩
   obtain rfl:=bC Qc
   refine pJ gz kM (IntWalk.i64_in _ (by omega)) ?_
   exact ⟨az,ay,aA,aB,aw,aD,aE,aI,aL,aP,aj,ao,aH,aM,aO,aN,aV,aU,aW,aX,a6,a5,a4,aZ,a8,bz,bA,bB,bx,bC,fun _=>rfl,ct,co,cn,cj,cv,cw,cu,cD,cB,cq,cm,cC,cz,cr,cE,hI⟩
  ·intro D aY PU x6 j3 j2 jU jT jV jX j4 jY jS j1 j5 jR j7 jW gc f3 eY fb eW fa eX e9 eZ fR fP eM cG cL ch cM cP cR cN cS cQ cO dj cZ dt cY cX cW cU bV bW w_
   rintro ⟨az,ay,aA,aB,aw,aD,aE,aI,aL,aP,aj,ao,aH,aM,aO,aN,aV,aU,aW,aX,a6,a5,a4,aZ,a8,bz,bA,bB,bx,bC,cA,ct,co,cn,cj,cv,cw,cu,cD,cB,cq,cm,cC,cz,cr,cE,hI⟩
   obtain rfl:=cA PU
   refine Dx (by omega) ?_
   exact ⟨az,ay,aA,aB,aw,aD,aE,aI,aL,aP,aj,ao,aH,aM,aO,aN,aV,aU,aW,aX,a6,a5,a4,aZ,a8,bz,bA,bB,bx,bC,cA,fun _=>rfl,co,cn,cj,cv,cw,cu,cD,cB,cq,cm,cC,cz,cr,cE,hI⟩
  ·intro D aY Hv PJ x6 j3 j2 jU jT jV jX j4 jY jS j1 j5 jR j7 jW gc f3 eY fb eW fa eX e9 eZ fR fP eM cG cL ch cM cP cR cN cS cQ cO dj cZ dt cY cX cW cU bV bW w_
   rintro ⟨az,ay,aA,aB,aw,aD,aE,aI,aL,aP,aj,ao,aH,aM,aO,aN,aV,aU,aW,aX,a6,a5,a4,aZ,a8,bz,bA,bB,bx,bC,cA,ct,co,cn,cj,cv,cw,cu,cD,cB,cq,cm,cC,cz,cr,cE,hI⟩
   obtain rfl:=aO Hv
   obtain rfl:=ct PJ
   refine bP (by omega) ?_
   exact ⟨az,ay,aA,aB,aw,aD,aE,aI,aL,aP,aj,ao,aH,aM,aO,aN,aV,aU,aW,aX,a6,a5,a4,aZ,a8,bz,bA,bB,bx,bC,cA,ct,fun _=>rfl,cn,cj,cv,cw,cu,cD,cB,cq,cm,cC,cz,cr,cE,hI⟩
  ·intro D aY  x6 j3 j2 jU jT jV jX j4 jY jS j1 j5 jR j7 jW gc f3 eY fb eW fa eX e9 eZ fR fP eM cG cL ch cM cP cR cN cS cQ cO dj cZ dt cY cX cW cU bV bW w_
   rintro ⟨az,ay,aA,aB,aw,aD,aE,aI,aL,aP,aj,ao,aH,aM,aO,aN,aV,aU,aW,aX,a6,a5,a4,aZ,a8,bz,bA,bB,bx,bC,cA,ct,co,cn,cj,cv,cw,cu,cD,cB,cq,cm,cC,cz,cr,cE,hI⟩
   exact ⟨az,ay,aA,aB,aw,aD,aE,aI,aL,aP,aj,ao,aH,aM,aO,aN,aV,aU,aW,aX,a6,a5,a4,aZ,a8,bz,bA,bB,bx,bC,cA,ct,co,fun _=>rfl,cj,cv,cw,cu,cD,cB,cq,cm,cC,cz,cr,cE,hI⟩
  ·intro D aY PI x6 j3 j2 jU jT jV jX j4 jY jS j1 j5 jR j7 jW gc f3 eY fb eW fa eX e9 eZ fR fP eM cG cL ch cM cP cR cN cS cQ cO dj cZ dt cY cX cW cU bV bW w_
   rintro ⟨az,ay,aA,aB,aw,aD,aE,aI,aL,aP,aj,ao,aH,aM,aO,aN,aV,aU,aW,aX,a6,a5,a4,aZ,a8,bz,bA,bB,bx,bC,cA,ct,co,cn,cj,cv,cw,cu,cD,cB,cq,cm,cC,cz,cr,cE,hI⟩
   obtain rfl:=cn PI
   refine Dx (by omega) ?_
   exact ⟨az,ay,aA,aB,aw,aD,aE,aI,aL,aP,aj,ao,aH,aM,aO,aN,aV,aU,aW,aX,a6,a5,a4,aZ,a8,bz,bA,bB,bx,bC,cA,ct,co,cn,fun _=>rfl,cv,cw,cu,cD,cB,cq,cm,cC,cz,cr,cE,hI⟩
  ·intro D aY Qj Qe x6 j3 j2 jU jT jV jX j4 jY jS j1 j5 jR j7 jW gc f3 eY fb eW fa eX e9 eZ fR fP eM cG cL ch cM cP cR cN cS cQ cO dj cZ dt cY cX cW cU bV bW w_
   rintro ⟨az,ay,aA,aB,aw,aD,aE,aI,aL,aP,aj,ao,aH,aM,aO,aN,aV,aU,aW,aX,a6,a5,a4,aZ,a8,bz,bA,bB,bx,bC,cA,ct,co,cn,cj,cv,cw,cu,cD,cB,cq,cm,cC,cz,cr,cE,hI⟩
   obtain rfl:=co Qj
   obtain rfl:=cj Qe
   refine bP (by omega) ?_
   exact ⟨az,ay,aA,aB,aw,aD,aE,aI,aL,aP,aj,ao,aH,aM,aO,aN,aV,aU,aW,aX,a6,a5,a4,aZ,a8,bz,bA,bB,bx,bC,cA,ct,co,cn,cj,fun _=>rfl,cw,cu,cD,cB,cq,cm,cC,cz,cr,cE,hI⟩
  ·intro D aY  x6 j3 j2 jU jT jV jX j4 jY jS j1 j5 jR j7 jW gc f3 eY fb eW fa eX e9 eZ fR fP eM cG cL ch cM cP cR cN cS cQ cO dj cZ dt cY cX cW cU bV bW w_
   rintro ⟨az,ay,aA,aB,aw,aD,aE,aI,aL,aP,aj,ao,aH,aM,aO,aN,aV,aU,aW,aX,a6,a5,a4,aZ,a8,bz,bA,bB,bx,bC,cA,ct,co,cn,cj,cv,cw,cu,cD,cB,cq,cm,cC,cz,cr,cE,hI⟩
   exact ⟨az,ay,aA,aB,aw,aD,aE,aI,aL,aP,aj,ao,aH,aM,aO,aN,aV,aU,aW,aX,a6,a5,a4,aZ,a8,bz,bA,bB,bx,bC,cA,ct,co,cn,cj,cv,fun _=>rfl,cu,cD,cB,cq,cm,cC,cz,cr,cE,hI⟩
  ·intro D aY  x6 j3 j2 jU jT jV jX j4 jY jS j1 j5 jR j7 jW gc f3 eY fb eW fa eX e9 eZ fR fP eM cG cL ch cM cP cR cN cS cQ cO dj cZ dt cY cX cW cU bV bW w_
   rintro ⟨az,ay,aA,aB,aw,aD,aE,aI,aL,aP,aj,ao,aH,aM,aO,aN,aV,aU,aW,aX,a6,a5,a4,aZ,a8,bz,bA,bB,bx,bC,cA,ct,co,cn,cj,cv,cw,cu,cD,cB,cq,cm,cC,cz,cr,cE,hI⟩
   exact ⟨az,ay,aA,aB,aw,aD,aE,aI,aL,aP,aj,ao,aH,aM,aO,aN,aV,aU,aW,aX,a6,a5,a4,aZ,a8,bz,bA,bB,bx,bC,cA,ct,co,cn,cj,cv,cw,fun _=>rfl,cD,cB,cq,cm,cC,cz,cr,cE,hI⟩
  ·intro D aY PX x6 j3 j2 jU jT jV jX j4 jY jS j1 j5 jR j7 jW gc f3 eY fb eW fa eX e9 eZ fR fP eM cG cL ch cM cP cR cN cS cQ cO dj cZ dt cY cX cW cU bV bW w_
   rintro ⟨az,ay,aA,aB,aw,aD,aE,aI,aL,aP,aj,ao,aH,aM,aO,aN,aV,aU,aW,aX,a6,a5,a4,aZ,a8,bz,bA,bB,bx,bC,cA,ct,co,cn,cj,cv,cw,cu,cD,cB,cq,cm,cC,cz,cr,cE,hI⟩
   obtain rfl:=cu PX
   refine d6 ?_
   exact ⟨az,ay,aA,aB,aw,aD,aE,aI,aL,aP,aj,ao,aH,aM,aO,aN,aV,aU,aW,aX,a6,a5,a4,aZ,a8,bz,bA,bB,bx,bC,cA,ct,co,cn,cj,cv,cw,cu,fun _=>rfl,cB,cq,cm,cC,cz,cr,cE,hI⟩
  ·intro D aY PP x6 j3 j2 jU jT jV jX j4 jY jS j1 j5 jR j7 jW gc f3 eY fb eW fa eX e9 eZ fR fP eM cG cL ch cM cP cR cN cS cQ cO dj cZ dt cY cX cW cU bV bW w_
   rintro ⟨az,ay,aA,aB,aw,aD,aE,aI,aL,aP,aj,ao,aH,aM,aO,aN,aV,aU,aW,aX,a6,a5,a4,aZ,a8,bz,bA,bB,bx,bC,cA,ct,co,cn,cj,cv,cw,cu,cD,cB,cq,cm,cC,cz,cr,cE,hI⟩
   obtain rfl:=cD PP
   refine bg fO ?_
   exact ⟨az,ay,aA,aB,aw,aD,aE,aI,aL,aP,aj,ao,aH,aM,aO,aN,aV,aU,aW,aX,a6,a5,a4,aZ,a8,bz,bA,bB,bx,bC,cA,ct,co,cn,cj,cv,cw,cu,cD,fun _=>rfl,cq,cm,cC,cz,cr,cE,hI⟩
  ·intro D aY P8 x6 j3 j2 jU jT jV jX j4 jY jS j1 j5 jR j7 jW gc f3 eY fb eW fa eX e9 eZ fR fP eM cG cL ch cM cP cR cN cS cQ cO dj cZ dt cY cX cW cU bV bW w_
   rintro ⟨az,ay,aA,aB,aw,aD,aE,aI,aL,aP,aj,ao,aH,aM,aO,aN,aV,aU,aW,aX,a6,a5,a4,aZ,a8,bz,bA,bB,bx,bC,cA,ct,co,cn,cj,cv,cw,cu,cD,cB,cq,cm,cC,cz,cr,cE,hI⟩
   obtain rfl:=cB P8
   refine bE hI 0 g9 rfl rfl ?_
   exact ⟨az,ay,aA,aB,aw,aD,aE,aI,aL,aP,aj,ao,aH,aM,aO,aN,aV,aU,aW,aX,a6,a5,a4,aZ,a8,bz,bA,bB,bx,bC,cA,ct,co,cn,cj,cv,cw,cu,cD,cB,fun _=>rfl,cm,cC,cz,cr,cE,hI⟩
  ·intro D aY PG x6 j3 j2 jU jT jV jX j4 jY jS j1 j5 jR j7 jW gc f3 eY fb eW fa eX e9 eZ fR fP eM cG cL ch cM cP cR cN cS cQ cO dj cZ dt cY cX cW cU bV bW w_
   rintro ⟨az,ay,aA,aB,aw,aD,aE,aI,aL,aP,aj,ao,aH,aM,aO,aN,aV,aU,aW,aX,a6,a5,a4,aZ,a8,bz,bA,bB,bx,bC,cA,ct,co,cn,cj,cv,cw,cu,cD,cB,cq,cm,cC,cz,cr,cE,hI⟩
   obtain rfl:=cq PG
   refine gD dU ?_
   exact ⟨az,ay,aA,aB,aw,aD,aE,aI,aL,aP,aj,ao,aH,aM,aO,aN,aV,aU,aW,aX,a6,a5,a4,aZ,a8,bz,bA,bB,bx,bC,cA,ct,co,cn,cj,cv,cw,cu,cD,cB,cq,fun _=>rfl,cC,cz,cr,cE,hI⟩
  ·intro D aY Qi P1 x6 j3 j2 jU jT jV jX j4 jY jS j1 j5 jR j7 jW gc f3 eY fb eW fa eX e9 eZ fR fP eM cG cL ch cM cP cR cN cS cQ cO dj cZ dt cY cX cW cU bV bW w_
   rintro ⟨az,ay,aA,aB,aw,aD,aE,aI,aL,aP,aj,ao,aH,aM,aO,aN,aV,aU,aW,aX,a6,a5,a4,aZ,a8,bz,bA,bB,bx,bC,cA,ct,co,cn,cj,cv,cw,cu,cD,cB,cq,cm,cC,cz,cr,cE,hI⟩
   obtain rfl:=cw Qi
   obtain rfl:=cm P1
   refine JS (a:=p) (b:=ys.length) rfl rfl h0 (by omega) ?_; rw [<- hdq]
   exact ⟨az,ay,aA,aB,aw,aD,aE,aI,aL,aP,aj,ao,aH,aM,aO,aN,aV,aU,aW,aX,a6,a5,a4,aZ,a8,bz,bA,bB,bx,bC,cA,ct,co,cn,cj,cv,cw,cu,cD,cB,cq,cm,fun _=>rfl,cz,cr,cE,hI⟩
  ·intro D aY PN x6 j3 j2 jU jT jV jX j4 jY jS j1 j5 jR j7 jW gc f3 eY fb eW fa eX e9 eZ fR fP eM cG cL ch cM cP cR cN cS cQ cO dj cZ dt cY cX cW cU bV bW w_
   rintro ⟨az,ay,aA,aB,aw,aD,aE,aI,aL,aP,aj,ao,aH,aM,aO,aN,aV,aU,aW,aX,a6,a5,a4,aZ,a8,bz,bA,bB,bx,bC,cA,ct,co,cn,cj,cv,cw,cu,cD,cB,cq,cm,cC,cz,cr,cE,hI⟩
   obtain rfl:=cC PN
   refine Dx (by omega) ?_
   exact ⟨az,ay,aA,aB,aw,aD,aE,aI,aL,aP,aj,ao,aH,aM,aO,aN,aV,aU,aW,aX,a6,a5,a4,aZ,a8,bz,bA,bB,bx,bC,cA,ct,co,cn,cj,cv,cw,cu,cD,cB,cq,cm,cC,fun _=>rfl,cr,cE,hI⟩
  ·intro D aY Qg Qk x6 j3 j2 jU jT jV jX j4 jY jS j1 j5 jR j7 jW gc f3 eY fb eW fa eX e9 eZ fR fP eM cG cL ch cM cP cR cN cS cQ cO dj cZ dt cY cX cW cU bV bW w_
   rintro ⟨az,ay,aA,aB,aw,aD,aE,aI,aL,aP,aj,ao,aH,aM,aO,aN,aV,aU,aW,aX,a6,a5,a4,aZ,a8,bz,bA,bB,bx,bC,cA,ct,co,cn,cj,cv,cw,cu,cD,cB,cq,cm,cC,cz,cr,cE,hI⟩
   obtain rfl:=cv Qg
   obtain rfl:=cz Qk
   refine bP (by omega) ?_
   exact ⟨az,ay,aA,aB,aw,aD,aE,aI,aL,aP,aj,ao,aH,aM,aO,aN,aV,aU,aW,aX,a6,a5,a4,aZ,a8,bz,bA,bB,bx,bC,cA,ct,co,cn,cj,cv,cw,cu,cD,cB,cq,cm,cC,cz,fun _=>rfl,cE,hI⟩
  ·intro D aY Qb Q7 Rz Ry RA RB RH RE RD RJ Rt Qv QK QE QH Q3 QP QO QT Rj Qs Qn Re Qo Q6 Rr Q5 QJ Ro QF QB QI Q9 Rs QM Qm QX QC Ri Qw Rq Qy QA Rh Ra Q0 x6 j3 j2 jU jT jV jX j4 jY jS j1 j5 jR j7 jW gc f3 eY fb eW fa eX e9 eZ fR fP eM cG cL ch cM cP cR cN cS cQ cO dj cZ dt cY cX cW cU bV bW w_
   rintro ⟨az,ay,aA,aB,aw,aD,aE,aI,aL,aP,aj,ao,aH,aM,aO,aN,aV,aU,aW,aX,a6,a5,a4,aZ,a8,bz,bA,bB,bx,bC,cA,ct,co,cn,cj,cv,cw,cu,cD,cB,cq,cm,cC,cz,cr,cE,hI⟩
   obtain rfl:=cr Qb
   exact ⟨az,ay,aA,aB,aw,aD,aE,aI,aL,aP,aj,ao,aH,aM,aO,aN,aV,aU,aW,aX,a6,a5,a4,aZ,a8,bz,bA,bB,bx,bC,cA,ct,co,cn,cj,cv,cw,cu,cD,cB,cq,cm,cC,cz,cr,fun _=>rfl,hI⟩
  intro D QG Qu Rm QL Q4 Rc QQ Rd QN Qz QY Rn QZ Rk Rg QV PA Pa Px O7 Pb Fu ER E0 Fp FX Fe zx Ak Ae nZ n4 oG jh ft fm iW gN f0 f1 fM fF fI fK fL fN x6 j3 j2 jU jT jV jX j4 jY jS j1 j5 jR j7 jW gc f3 eY fb eW fa eX e9 eZ fR fP eM cG cL ch cM cP cR cN cS cQ cO dj cZ dt cY cX cW cU bV bW w_
  rintro ⟨az,ay,aA,aB,aw,aD,aE,aI,aL,aP,aj,ao,aH,aM,aO,aN,aV,aU,aW,aX,a6,a5,a4,aZ,a8,bz,bA,bB,bx,bC,cA,ct,co,cn,cj,cv,cw,cu,cD,cB,cq,cm,cC,cz,cr,cE,hI⟩
  obtain rfl:=cE QG
  obtain rfl:=cr Qu
  obtain rfl:=cz Rm
  obtain rfl:=cC QL
  obtain rfl:=cm Q4
  obtain rfl:=cq Rc
  obtain rfl:=cB QQ
  obtain rfl:=cD Rd
  obtain rfl:=cu QN
  obtain rfl:=cw Qz
  obtain rfl:=cv QY
  obtain rfl:=cj Rn
  obtain rfl:=cn QZ
  obtain rfl:=co Rk
  obtain rfl:=ct Rg
  obtain rfl:=cA QV
  obtain rfl:=bC PA
  obtain rfl:=bx Pa
  obtain rfl:=bB Px
  obtain rfl:=bA O7
  obtain rfl:=bz Pb
  obtain rfl:=a8 Fu
  obtain rfl:=aZ ER
  obtain rfl:=a4 E0
  obtain rfl:=a5 Fp
  obtain rfl:=a6 FX
  obtain rfl:=aX Fe
  obtain rfl:=aW zx
  obtain rfl:=aU Ak
  obtain rfl:=aV Ae
  obtain rfl:=aN nZ
  obtain rfl:=aO n4
  obtain rfl:=aM oG
  obtain rfl:=aH jh
  obtain rfl:=ao ft
  obtain rfl:=aj fm
  obtain rfl:=aP iW
  obtain rfl:=aL gN
  obtain rfl:=aI f0
  obtain rfl:=aE f1
  obtain rfl:=aD fM
  obtain rfl:=aw fF
  obtain rfl:=aB fI
  obtain rfl:=aA fK
  obtain rfl:=ay fL
  obtain rfl:=az fN
  clear az ay aA aB aw aD aE aI aL aP aj ao aH aM aO aN aV aU aW aX a6 a5 a4 aZ a8 bz bA bB bx bC cA ct co cn cj cv cw cu cD cB cq cm cC cz cr cE
  obtain ⟨x,hx⟩:∃ x:Nat,((((((y1:Nat):Int) * 131)+(((y2:Nat):Int) * 1117))+((p:Int) * 29))+(((q:Nat):Int) * 53))=(x:Int):=⟨(((((((y1:Nat):Int) * 131)+(((y2:Nat):Int) * 1117))+((p:Int) * 29))+(((q:Nat):Int) * 53))).toNat,by omega⟩
  have hx2:x<=10000000000000000:=by omega
  rw [hx]
  refine JS (a:=x) (b:=64) rfl rfl (by omega) (by omega) ?_
  refine Pu (a:=x) (b:=x / 64) rfl rfl (by omega) (by omega) ?_
  refine Iq hn ?_
  exact ⟨_,_,_,rfl,hI,Ext.refl _ _ _,rfl,rfl,_,Nat.mod_lt _ hn,rfl⟩
theorem j6 {ys:List Nat} {ns:List Int} {S:aF} {sl v:Value} {br p:Nat} (h:RdSl S 1 iU sl ys) (hv:RdSl S 1 pE v ns) (h0:0<ns.length) (hp:p<=1000000000000) :
  Tri Tryz.prog CY [rdP br,v] [rdI br sl p] S fun r I' S'=>S'=S/\I'=[rdI br sl (p+1)]/\∃ n∈ns,r=.int .i64 n:=by
 intro w hI
 refine tg ?_
 unfold oZ
 refine a9 hv fU ?_
 refine Run.call (A:=[]) c5 c8 hI (eB h hp h0) fun v' I' S' w'=>?_
 rintro ⟨rfl,rfl,k,hk,rfl⟩ _ hI
 obtain ⟨b,o,cap,c,E,fz,rfl,hS,hR⟩:=hv.at_ hk
 refine bh fU hk ?_
 refine dM bn ((hI.cellS hS).trans (bl hR 0 _ rfl)) ?_
 exact ⟨_,_,_,rfl,hI,Ext.refl _ _ _,rfl,rfl,_,List.getElem_mem hk,rfl⟩
theorem tX {ys:List Nat} {ns:List ByteArray} {S:aF} {sl v:Value} {br p:Nat} (h:RdSl S 1 iU sl ys) (hv:RdSl S 1 uJ v ns) (h0:0<ns.length) (hp:p<=1000000000000) :
  Tri Tryz.prog EB [rdP br,v] [rdI br sl p] S fun r I' S'=>S'=S/\I'=[rdI br sl (p+1)]/\∃ n∈ns,r=.string n:=by
 intro w hI
 refine vu ?_
 unfold rv
 refine a9 hv dd ?_
 refine Run.call (A:=[]) c5 c8 hI (eB h hp h0) fun v' I' S' w'=>?_
 rintro ⟨rfl,rfl,k,hk,rfl⟩ _ hI
 obtain ⟨b,o,cap,c,E,fz,rfl,hS,hR⟩:=hv.at_ hk
 refine bh dd hk ?_
 refine dM bm ((hI.cellS hS).trans (bl hR 0 _ rfl)) ?_
 exact ⟨_,_,_,rfl,hI,Ext.refl _ _ _,rfl,rfl,_,List.getElem_mem hk,rfl⟩
theorem AP {ys:List Nat} {S:aF} {v:Value} (h:RdSl S 1 iU v ys) :
  Tri Tryz.prog HS [v] [] S fun r I' S'=>S'=S/\∃ br sl ys',r=rdP br/\I'=[rdI br sl 0]/\RdSl S 1 iU sl ys':=by
 intro w hI
 refine yn ?_
 unfold u0
 refine ⟨fun t w'=>(∃ ys',RdSl S 1 iU t ys')/\Inv w [] [] S w',?_,?_⟩
 ·refine a9 h dU ?_
  refine dX ?_
  refine bk (fun hgt=>?_) (fun _=>⟨⟨_,h⟩,hI⟩)
  obtain ⟨a,cap,rfl,hl,hc,hh⟩:=id h
  refine KG (h:=2000) dU (by omega) ?_
  exact ⟨⟨_,RdSl.to h (by omega)⟩,hI⟩
 intro t0 _ _ _ _ _ w'
 rintro ⟨⟨ys',hr⟩,hI⟩
 obtain ⟨a,cap,rfl,_⟩:=id hr
 refine Run.of (v:=.agg #[.slice a ys'.length cap,.int .i64 0]) (w':=w') ?_ ?_
 ·unfold dN
  rw [Sem.run_bind,run_build w' HG _ #[.slice a ys'.length cap,.int .i64 0] (by kernel_rfl),Result.andThen_ok]
  rfl
 refine bO hI fun br w' hI=>?_
 exact ⟨_,_,_,rfl,hI,Ext.refl _ _ _,rfl,br,_,ys',rfl,rfl,hr⟩
end
end Go.Proofs.YtemmhhdnlbmicaaGreat
