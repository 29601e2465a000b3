/- Texts read: spec.l1Struct, l1Chain, l2Read, l2Prime, l2Terms, l2Items. (printed by gen_read.py) -/
import Derived.Test.YtcpgagfdeflbkaaGreatDoorZSl5
import Derived.Test.YtcpgagfdeflbkaaGreatDoorZSl3
namespace Go.Proofs.YtcpgagfdeflbkaaGreatDoor
section
open Go Go.RowKit
theorem QL {s:Bs} {i e:Nat} {t:T} (hn:OT s i=some (t,e)):i<e/\e<=s.length:=by
 unfold OT at hn
 obtain ⟨fr,hfr⟩:∃ fr,fr=if sgn s i 45=true then i+1 else i:=⟨_,rfl⟩
 simp only [<- hfr] at hn
 have hle:=GC s 4 fr
 have hfi:i<=fr/\fr<=i+1:=by rw [hfr]; split <;> omega
 split at hn
 ·cases hn
 rename_i hc
 simp only [not_or] at hc
 simp only [aT,cL] at hn
 obtain ⟨_,rfl⟩:=hn
 have h2:fr<rv s 4 fr:=by
  rcases FZ fr (rv s 4 fr) with h|h
  ·exact h
  ·refine absurd ?_ hc.1
   rw [cut,tM]
   rw [dN]
   omega
 have:=Bw (tj s 4 fr (rv s 4 fr - 1) (by omega) (by omega))
 omega
theorem gz:∀ f:Nat,(∀ s i d l t n,i6 f s i d l=some (t,n)->i<n/\n<=s.length)/\(∀ s i d l t0 t n,Je f s i d l t0=some (t,n)->i<=s.length->i<=n/\n<=s.length)/\
  (∀ s i d t n,s4 f s i d=some (t,n)->i<n/\n<=s.length)/\(∀ s i d e o acc ts n,gZ f s i d e o acc=some (ts,n)->i<n/\n<s.length)
 | 0=>⟨fun s i d l t n h=>by simp [i6] at h,fun s i d l t0 t n h=>by simp [Je] at h,fun s i d t n h=>by simp [s4] at h,fun s i d e o acc ts n h=>by simp [gZ] at h⟩
 | f+1=>by
  obtain ⟨h1,h2,h3,h4⟩:=gz f
  refine ⟨fun s i d l t n h=>?_,fun s i d l t0 t n h hi=>?_,fun s i d t n h=>?_,fun s i d e o acc ts n h=>?_⟩
  ·cases l with
   | zero=>rw [i6] at h; exact h3 _ _ _ _ _ h
   | succ l=>
    rw [i6] at h
    split at h
    ·cases h
    ·rename_i t' n' hr
     have a:=h1 _ _ _ _ _ _ hr
     have b:=h2 _ _ _ _ _ _ _ h a.2
     omega
  ·rw [Je] at h
   split at h
   ·simp only [aT,cL] at h
    omega
   ·rename_i name after ho
    have a:=Pp ho
    split at h
    ·split at h
     ·cases h
     ·rename_i r e hr
      have b:=h1 _ _ _ _ _ _ hr
      split at h
      ·simp only [aT,cL] at h
       omega
      ·have c:=h2 _ _ _ _ _ _ _ h b.2
       omega
    ·simp only [aT,cL] at h
     omega
  ·rw [s4] at h
   split at h
   ·cases h
   rename_i h0
   have h0:i<s.length:=by omega
   split at h
   ·split at h
    ·cases h
    ·rename_i t' n' hr
     have a:=h1 _ _ _ _ _ _ hr
     split at h
     ·rename_i hs
      have:=ib hs
      simp only [aT,cL] at h
      omega
     ·cases h
   ·split at h
    ·split at h
     ·cases h
     ·rename_i ts n' hr
      have a:=h4 _ _ _ _ _ _ _ _ hr
      split at h
      ·simp only [aT,cL] at h
       omega
      ·split at h
       ·cases h
       ·rename_i t' e hr2
        have b:=h1 _ _ _ _ _ _ hr2
        split at h
        ·rename_i hs
         have:=ib hs
         simp only [aT,cL] at h
         omega
        ·cases h
    ·split at h
     ·simp only [aT,cL] at h
      omega
     ·split at h
      ·exact QL h
      ·split at h
       ·cases h
       ·rename_i name n' hn
        have a:=uW h0 hn
        split at h
        ·simp only [aT,cL] at h
         omega
        ·split at h
         ·cases h
         ·rename_i ts e hr
          have b:=h4 _ _ _ _ _ _ _ _ hr
          simp only [aT,cL] at h
          omega
  ·rw [gZ] at h
   split at h
   ·cases h
   ·rename_i t' n' hr
    have a:=h1 _ _ _ _ _ _ hr
    split at h
    ·rename_i hs
     have hlt:n'<s.length:=hs.elim ib ib
     simp only [aT,cL] at h
     omega
    ·split at h
     ·have b:=h4 _ _ _ _ _ _ _ _ h
      omega
     ·cases h
abbrev TF (t:T):Value->List Item->ad->Prop:=fun v I' S'=>I'=[]/\∃ cs,v=.agg cs.toArray/\RdT S' cs t
abbrev PQ (t:T) (n:Nat):Value->List Item->ad->Prop:=fun v I' S'=>I'=[]/\∃ cs,v=.tuple #[.agg cs.toArray,.int .i64 (n:Int)]/\RdT S' cs t
abbrev Q7 (ts:List T) (n:Nat):Value->List Item->ad->Prop:=fun v I' S'=>I'=[]/\∃ u,v=.tuple #[u,.int .i64 (n:Int)]/\RdSl S' 4 (RdT S') u ts
theorem iL (S:ad):RdSl S 4 (RdT S) (.slice none 0 0) []:=⟨none,0,rfl,aM _,aR _,.inl rfl⟩
theorem KD {S:ad} {b:Nat} {E:TypeId} {a c:T} {k1 n1 k2 n2:Int} {s1 s2:ByteArray} {v1 v2:Value} (hS:S b=some (.cells #[.int .i64 k1,.int .i64 n1,.string s1,v1,.int .i64 k2,.int .i64 n2,.string s2,v2] E))
  (h1:RdT S [.int .i64 k1,.int .i64 n1,.string s1,v1] a) (h2:RdT S [.int .i64 k2,.int .i64 n2,.string s2,v2] c):RdSl S 4 (RdT S) (.slice (some ⟨b,0,none⟩) 2 2) [a,c]:=by
 refine ⟨_,2,rfl,aM _,by simp [maxLen],.inr ⟨b,0,_,E,(0,0),rfl,hS,fun i hi=>?_⟩⟩
 match i,hi with
 | 0,_=>exact h1
 | 1,_=>exact h2
section
variable {w w0:World} {X:List Nat} {L:List Item} {S:ad} {K:Value->World->Prop}
attribute [local irreducible] Run CondV aq aK
theorem eD {P:Program} {T:TypeId} {cx cy:Bool} {x y:Int} {a b:Nat} (hx:x=a) (hy:y=b) (hr:a+b<=1000000000000000) (hk:K (.int .i64 ((a+b:Nat):Int)) w):Run P (cw .add T cx cy (.int .i64 x) (.int .i64 y)) w K:=by
 subst hx hy
 refine bn (by omega) ?_
 rw [<- Int.natCast_add]
 exact hk
theorem BW {P:Program} {T:TypeId} {cx cy:Bool} {x y:Int} {a b:Nat} (hx:x=a) (hy:y=b) (hle:b<=a) (hr:a<=1000000000000000) (hk:K (.int .i64 ((a - b:Nat):Int)) w):Run P (cw .sub T cx cy (.int .i64 x) (.int .i64 y)) w K:=by
 subst hx hy
 refine kY (by omega) ?_
 rw [<- Int.ofNat_sub hle]
 exact hk
theorem r7 {s:ByteArray} {v:Value} (hv:∃ p n m,v=.slice p n m) (hk:K (.agg #[.int .i64 3,.int .i64 0,.string s,v]) w):Run Tryz.prog (cn ab [(0,.int .i64 3),(2,.string s),(3,v)]) w K:=by
 obtain ⟨p,n,m,rfl⟩:=hv
 refine Run.of (v:=.agg #[.int .i64 3,.int .i64 0,.string s,.slice p n m]) (w':=w) ?_ hk
 unfold cn
 rw [Sem.run_bind,run_build w ab _ #[.int .i64 3,.int .i64 0,.string s,.slice p n m] (by kernel_rfl),Result.andThen_ok]
 rfl
theorem uq (s:ByteArray) {ks:List T} {u:Value} (h:RdSl S 4 (RdT S) u ks) (hk:ks.length<=1000000):Tri Tryz.prog uF [.string s,u] [] S fun v I' S'=>S'=S/\∃ kv css,v=.agg #[.int .i64 3,.int .i64 0,.string s,kv]/\I'=[aE kv ab 4 css]/\Rows 4 (RdT S) css ks:=by
 intro w hI
 refine se.2 ?_
 dsimp only[se,aO]
 refine aP hI aZ fun b4 w' hI=>?_
 refine d3 hI bA fun v0 w' hI=>?_
 have hI:Inv w [] [.blk b4 (.cells #[.int .i64 0,.int .i64 0,.string ⟨#[]⟩,.slice none 0 0] ab),aE v0 ab 4 []] S w':=hI
 refine Bx hI 1 (css:=[]) bA (by omega) rfl h (fun _ _=>RdT.length) (fun _ _=>RdT.one) (by simp; omega) (by omega) fun v' w' css2 hR hI=>?_
 have hI:Inv w [] [.blk b4 (.cells #[.int .i64 0,.int .i64 0,.string ⟨#[]⟩,.slice none 0 0] ab),aE v' ab 4 css2] S w':=hI
 obtain ⟨a,n,c,rfl⟩:=hI.rowSlice 1 rfl
 refine r7 ⟨_,_,_,rfl⟩ ?_
 refine aA hI 0 rfl ac rfl rfl (by simp [Value.oneCell']) fun w' hI=>?_
 refine bw hI 0 ac rfl rfl ?_
 exact ⟨_,_,_,rfl,hI.sub (gk _ _),Ext.refl _ _ _,rfl,_,css2,rfl,rfl,hR⟩
theorem dE (s:ByteArray) (hs:s.size<=maxLen) {ks:List T} {u:Value} (h:RdSl S 4 (RdT S) u ks) (hk:ks.length<=1000000):Tri Tryz.prog uF [.string s,u] [] S (TF (.mk 3 0 s ks)):=by
 intro w hI
 refine (uq s h hk w hI).mono ?_
 rintro e w' ⟨v,I',S',rfl,hI,hE,rfl,kv,css,rfl,rfl,hR⟩
 obtain ⟨S1,hE1,hrd,hI⟩:=Inv.lendExt (A:=[]) hI
 have hrs:=RowRd.rows (hR.monoR fun _ _ h=>RdT.mono hE1.1 h) hrd
 exact ⟨_,[],S1,rfl,hI,hE.trans hE1,rfl,[.int .i64 3,.int .i64 0,.string s,kv],rfl,RdT.iff.2 ⟨kv,rfl,by simp [inI,T.kind],by simp [inI,T.n],hs,hrs⟩⟩
theorem K1 {ts:List T} {j:Nat} (h:j<ts.length) (t:T):iA (ts.drop j) t=II ts[j] (iA (ts.drop (j+1)) t):=by
 rw [di h,iA]
theorem rY {ts:List T} {t:T} {u:Value} {cs:List Value} (h:RdSl S 4 (RdT S) u ts) (ht:RdT S cs t) (hl:ts.length<=1000000):Tri Tryz.prog Hw [u,.agg cs.toArray] [] S (TF (iA ts t)):=by
 intro w hI
 obtain ⟨kv,rfl,g1,g2,g3,g4⟩:=RdT.iff.1 ht
 obtain ⟨ka,kn,kc,hkv⟩:∃ a n m,kv=.slice a n m:=by
  obtain ⟨a,m,e,_⟩:=g4
  exact ⟨_,_,_,e⟩
 refine ud.2 ?_
 dsimp only[ud,aO]
 refine bp hI fun b3 w' hI=>?_
 refine aP hI aZ fun b4 w' hI=>?_
 refine az hI 0 ac rfl rfl ?_
 refine aP hI aZ fun b5 w' hI=>?_
 refine aA hI 2 rfl ac rfl rfl (by simp [Value.oneCell',Value.cells,hkv]) fun w' hI=>?_
 refine aF h ah ?_
 refine kY (by omega) ?_
 obtain ⟨B3,hB3⟩:∃ B3,B3=Item.blk b3 (.cells #[.int .i64 t.kind,.int .i64 t.n,.string t.name,kv] ab):=⟨_,rfl⟩
 have hI:Inv w [] [B3,.blk b4 (.cells #[.int .i64 0,.int .i64 0,.string ⟨#[]⟩,.slice none 0 0] ab),.blk b5 (.cells #[.int .i64 t.kind,.int .i64 t.n,.string t.name,kv] ab)] S w':=by rw [hB3]; exact hI
 refine ⟨fun i w'=>∃ (j:Nat) (S1:ad) (ds:List Value),j<=ts.length/\i=.int .i64 ((j:Int) - 1)/\Ext w.heap.size [] S S1/\RdT S1 ds (iA (ts.drop j) t)/\Inv w [] [B3,.blk b4 (.cells #[.int .i64 0,.int .i64 0,.string ⟨#[]⟩,.slice none 0 0] ab),.blk b5 (.cells ds.toArray ab)] S1 w',
  fun i _=>(intOf i+1).toNat,⟨ts.length,S,_,aM _,rfl,Ext.refl _ _ _,by rw [dP]; exact ht,hI⟩,?_⟩
 intro t6 _ _ t21 t20 t19 t18 t17 t16 t15 _ _ w'
 rintro ⟨j,S1,ds,hj,rfl,hE,hds,hI⟩
 by_cases hj0:j=0
 ·subst hj0
  refine ww (by omega) ?_
  refine aw (fun hb=>by cases hb) (fun _=>?_)
  obtain ⟨kv',rfl,_,_,_,a,m,rfl,_⟩:=RdT.iff.1 hds
  refine az hI 2 ac rfl rfl ?_
  refine aA hI 1 rfl ac rfl rfl (by simp [Value.oneCell']) fun w' hI=>?_
  refine bw hI 1 ac rfl rfl ?_
  exact ⟨_,_,_,rfl,hI.nil,hE,rfl,_,rfl,hds⟩
 ·refine ni (by omega) ?_
  refine aw (fun _=>?_) (fun hb=>by cases hb)
  obtain ⟨m,rfl⟩:∃ m,j=m+1:=⟨j - 1,by omega⟩
  have hm:m<ts.length:=by omega
  have ej:((m+1:Nat):Int) - 1=(m:Int):=by omega
  rw [ej]
  obtain ⟨b,o,cap,c,E,fz,rfl,hS,hR⟩:=(h.monoT hE.1).at_ hm
  obtain ⟨ka',hca,_,_,_,aa,am,hka',_⟩:=RdT.iff.1 hR
  subst hka'
  obtain ⟨kd,rfl,_,_,_,da,dm,rfl,_⟩:=RdT.iff.1 hds
  obtain ⟨o1,ho1⟩:∃ o1,o1=iA (ts.drop (m+1)) t:=⟨_,rfl⟩
  rw [<- ho1] at hds hI
  obtain ⟨a1,ha1⟩:∃ a1,a1=ts[m]:=⟨_,rfl⟩
  rw [<- ha1] at hR hca
  skip
  refine ⟨fun D s5 pf pH BX mZ vm Cq w_=>Fx D 0 [Cq=.slice (some ⟨b,o,none⟩) ts.length cap,vm=.int .i64 (m:Int),mZ=.pointer (some ⟨b,o+m * 4,none⟩),BX=.agg #[.int .i64 a1.kind,.int .i64 a1.n,.string a1.name,.slice aa a1.kids.length am],pH=.agg #[.int .i64 o1.kind,.int .i64 o1.n,.string o1.name,.slice da o1.kids.length dm],True,True,True]/\∃ S2 c6,Ext w.heap.size [] S1 S2/\(D 5=true->RdSl S2 4 (RdT S2) pf [a1,o1])/\(D 6=true->s5=.agg c6.toArray/\RdT S2 c6 (II a1 o1))/\(D 7=true->D 6=true)/\(D 6=true->D 5=true)/\(D 5=true->D 4=true)/\Inv w [] [B3,.blk b4 (.cells #[.int .i64 0,.int .i64 0,.string ⟨#[]⟩,.slice none 0 0] ab),.blk b5 (.cells (match D 7 with|true=>c6.toArray|false=>#[.int .i64 o1.kind,.int .i64 o1.n,.string o1.name,.slice da o1.kids.length dm]) ab)] S2 w_,⟨Fx.nil _ _,⟨S1,[],Ext.refl _ _ _,aQ,aQ,aQ,aQ,aQ,hI.draw⟩⟩,⟨?_,?_,?_,?_,?_,?_,?_,?_,trivial⟩,?_⟩
  all_goals (intro D bI; intros; rename_i s5 pf pH BX mZ vm Cq w_ hA_; have hF_:=hA_.1; obtain ⟨⟨cJ,cH,cK,cI,cN,cP,cz,dC,_⟩,⟨S2,c6,hE2,e5,e6,k7,k6,k5,hI⟩⟩:=hA_)
  ·exact ⟨hF_.set 0 rfl,⟨S2,c6,hE2,e5,e6,k7,k6,k5,hI⟩⟩
  ·exact ⟨hF_.set 1 rfl,⟨S2,c6,hE2,e5,e6,k7,k6,k5,hI⟩⟩
  ·obtain rfl:=cJ ‹_›
   obtain rfl:=cH ‹_›
   refine aD ah hm ?_
   exact ⟨hF_.set 2 rfl,⟨S2,c6,hE2,e5,e6,k7,k6,k5,hI⟩⟩
  ·obtain rfl:=cK ‹_›
   refine cm (cs:=[.int .i64 a1.kind,.int .i64 a1.n,.string a1.name,.slice aa a1.kids.length am]) ac rfl (fun j v hj=>by rw [hI.cellS (hE2.1 _ _ hS)]; exact aL hca j v hj) ?_
   exact ⟨hF_.set 3 rfl,⟨S2,c6,hE2,e5,e6,k7,k6,k5,hI⟩⟩
  ·have f5:D 5=false:=cq.2 fun h=>by rw [k5 h] at bI; cases bI
   have f6:D 6=false:=cq.2 fun h=>by rw [k6 h] at f5; cases f5
   have f7:D 7=false:=cq.2 fun h=>by rw [k7 h] at f6; cases f6
   have hI0:=hI
   rw [f7] at hI
   refine az hI 2 ac rfl rfl ?_
   have hI:=hI0
   have k5:=fun (_:aB D 4 5=true)=>(rfl:aB D 4 4=true)
   exact ⟨hF_.set 4 rfl,⟨S2,c6,hE2,e5,e6,k7,k6,k5,hI⟩⟩
  ·obtain rfl:=cI ‹_›
   obtain rfl:=cN ‹_›
   have f6:D 6=false:=cq.2 fun h=>by rw [k6 h] at bI; cases bI
   have f7:D 7=false:=cq.2 fun h=>by rw [k7 h] at f6; cases f6
   rw [f7] at hI
   refine qD (v:=fun b=>.slice (some ⟨b,0,none⟩) 2 2) (o:=.cells #[.int .i64 a1.kind,.int .i64 a1.n,.string a1.name,.slice aa a1.kids.length am,.int .i64 o1.kind,.int .i64 o1.n,.string o1.name,.slice da o1.kids.length dm] ab) hI (by kernel_rfl) fun b20 w_ hI=>?_
   obtain ⟨S2,hI,hE3,hS3⟩:=Inv.pub1 (A:=[_,_,_]) hI
   have hE2:=hE2.trans hE3
   have hR':RdT S2 [.int .i64 a1.kind,.int .i64 a1.n,.string a1.name,.slice aa a1.kids.length am] a1:=by
    have:=RdT.mono hE2.1 hR
    rwa [hca] at this
   have e5:=fun (_:aB D 5 5=true)=>KD hS3 hR' (RdT.mono hE2.1 hds)
   have e6:=fun (h:D 6=true)=>(absurd h (by rw [f6]; decide):s5=.agg c6.toArray/\RdT S2 c6 (II a1 o1))
   have k6:=fun (_:aB D 5 6=true)=>(rfl:aB D 5 5=true)
   have k5:=fun (_:aB D 5 5=true)=>‹D 4=true›
   have hI:Inv w [] [B3,.blk b4 (.cells #[.int .i64 0,.int .i64 0,.string ⟨#[]⟩,.slice none 0 0] ab),.blk b5 (.cells (match D 7 with|true=>c6.toArray|false=>#[.int .i64 o1.kind,.int .i64 o1.n,.string o1.name,.slice da o1.kids.length dm]) ab)] S2 w_:=by
    rw [f7]
    exact hI
   exact ⟨hF_.set 5 (by first|assumption|trivial),⟨S2,c6,hE2,e5,e6,k7,k6,k5,hI⟩⟩
  ·have NN:=cP ‹_›
   have f7:D 7=false:=cq.2 fun h=>by rw [k7 h] at bI; cases bI
   rw [f7] at hI
   refine Run.call0E cV cU hI (dE ⟨#[46]⟩ (by decide +kernel) (e5 ‹D 5=true›) (by simp)) fun v' I' S2 w_=>?_
   rintro ⟨rfl,c6,rfl,hc6⟩ hE3 hI
   have hE2:=hE2.trans hE3
   have e5:=fun (h:D 5=true)=>(e5 h).monoT hE3.1
   have e6:aB D 6 6=true->Value.agg c6.toArray=Value.agg c6.toArray/\RdT S2 c6 (II a1 o1):=fun _=>⟨rfl,hc6⟩
   have k7:=fun (_:aB D 6 7=true)=>(rfl:aB D 6 6=true)
   have k6:=fun (_:aB D 6 6=true)=>‹D 5=true›
   have hI:Inv w [] [B3,.blk b4 (.cells #[.int .i64 0,.int .i64 0,.string ⟨#[]⟩,.slice none 0 0] ab),.blk b5 (.cells (match D 7 with|true=>c6.toArray|false=>#[.int .i64 o1.kind,.int .i64 o1.n,.string o1.name,.slice da o1.kids.length dm]) ab)] S2 w_:=by
    rw [f7]
    exact hI
   exact ⟨hF_.set 6 (by first|assumption|trivial),⟨S2,c6,hE2,e5,e6,k7,k6,k5,hI⟩⟩
  ·have M9:=cz ‹_›
   obtain ⟨q6,hc6⟩:=e6 ‹D 6=true›
   subst q6
   rw [bI] at hI
   have hone:=hc6.one
   have hlen:=hc6.length
   refine aA hI 2 rfl ac (by simpa using hlen) rfl (by simpa using hone) fun w_ hI=>?_
   have k7:=fun (_:aB D 7 7=true)=>‹D 6=true›
   exact ⟨hF_.set 7 trivial,⟨S2,c6,hE2,e5,e6,k7,k6,k5,hI⟩⟩
  obtain ⟨rfl,rfl,rfl,rfl,rfl,NN,M9,_,_⟩:=hF_.all
  have M6:D 6=true:=by assumption
  have C5:D 7=true:=by assumption
  clear hF_ cJ cH cK cI cN cP cz dC
  rw [C5] at hI
  obtain ⟨_,hc6⟩:=e6 M6
  refine kY (by omega) ?_
  refine ⟨⟨m,S2,c6,by omega,rfl,hE.trans hE2,?_,hI⟩,by simp [intOf]⟩
  rw [K1 hm,<- ha1,<- ho1]
  exact hc6
end
def qn (f:Nat):Prop:=∀ (s:Bs) (i d l:Nat) (t:T) (n:Nat) (S:ad),i6 f s i d l=some (t,n)->s.length<=100000->i<=s.length->d<=100->l<=3->
 Tri Tryz.prog Kw [.string (st s),.int .i64 (i:Int),.int .i64 (d:Int),.int .i64 (l:Int)] [] S (PQ t n)
def Fm (f:Nat):Prop:=∀ (s:Bs) (i d:Nat) (t:T) (n:Nat) (S:ad),s4 f s i d=some (t,n)->s.length<=100000->i<=s.length->d<=100->
 Tri Tryz.prog Hp [.string (st s),.int .i64 (i:Int),.int .i64 (d:Int)] [] S (PQ t n)
def tm (f:Nat):Prop:=∀ (s:Bs) (i d e o:Nat) (ts:List T) (n:Nat) (S:ad),gZ f s i d e o []=some (ts,n)->s.length<=100000->i<=s.length->d<=100->
 Tri Tryz.prog HQ [.string (st s),.int .i64 (i:Int),.int .i64 (d:Int),.int .u8 (e:Int),.int .u8 (o:Int)] [] S (Q7 ts n)
theorem Ec:∀ (f:Nat) (s:Bs) (i d e o:Nat) (acc ts:List T) (n:Nat),gZ f s i d e o acc=some (ts,n)->ts.length+i<=acc.length+n
 | 0,s,i,d,e,o,acc,ts,n,h=>by simp [gZ] at h
 | f+1,s,i,d,e,o,acc,ts,n,h=>by
  rw [gZ] at h
  split at h
  ·cases h
  ·rename_i t' n' hr
   have a:=(gz f).1 _ _ _ _ _ _ hr
   split at h
   ·simp only [aT,cL] at h
    obtain ⟨rfl,rfl⟩:=h
    rw [bh]
    simp only [bk,bG]
    omega
   ·split at h
    ·have b:=Ec f _ _ _ _ _ _ _ _ h
     rw [bh] at b
     simp only [bk,bG] at b
     omega
    ·cases h
section
attribute [local irreducible] Run CondV aq aK
theorem PG {f:Nat} (ih:∀ g,g<f->qn g):tm f:=by
 intro s i d e o ts n S h hs hi hd w hI
 refine uc.2 ?_
 dsimp only[uc,EC]
 refine d3 hI bA fun v0 w' hI=>?_
 refine ⟨fun a b w'=>∃ (f' i':Nat) (acc:List T) (S1:ad) (css:List (List Value)),f'<=f/\a=.int .i64 (i':Int)/\i<=i'/\i'<=s.length/\acc.length+i<=i'/\gZ f' s i' d e o acc=some (ts,n)/\Ext w.heap.size [] S S1/\Rows 4 (RdT S1) css acc/\Inv w [] [aE b ab 4 css] S1 w',
  fun a _ _=>s.length+1 - (intOf a).toNat,⟨f,i,[],S,[],aM _,rfl,aM _,hi,by simp,h,Ext.refl _ _ _,Rows.nil _ _,hI⟩,?_⟩
 intro t1 _ _ _ _ _ _ _ _ _ _ _ _ _ _ _ _ _ _ _ _ t12 _ _ _ _ _ _ _ _ _ _ _ _ _ _ _ _ _ _ w'
 rintro ⟨f',i',acc,S1,css,hf',rfl,hi1,hi2,hacc,hT,hE,hR,hI⟩
 have hcl:=hR.hc
 cases f' with
 | zero=>simp [gZ] at hT
 | succ g=>
 rw [gZ] at hT
 split at hT
 ·cases hT
 rename_i t n' hr
 have hle:=(gz g).1 _ _ _ _ _ _ hr
 refine Run.call0E fD fN hI (ih g (by omega) s i' d 3 t n' S1 hr hs hi2 hd (by omega)) fun v I' S2 w'=>?_
 rintro ⟨rfl,cs,rfl,hcs⟩ hE2 hI
 have hR2:=hR.monoR fun _ _ h=>RdT.mono hE2.1 h
 obtain ⟨kv,rfl,_,_,_,a,m,rfl,_⟩:=RdT.iff.1 hcs
 refine al (v:=.agg _) rfl ?_
 refine al (v:=.int .i64 (n':Int)) rfl ?_
 refine aP hI aZ fun b13 w' hI=>?_
 refine aA hI 1 rfl ac rfl rfl (by simp [Value.oneCell']) fun w' hI=>?_
 refine eA (by omega) ?_
 refine aw (fun hb=>by cases hb) (fun _=>?_)
 refine az hI 1 ac rfl rfl ?_
 refine cM (css:=css) hI 0 _ bA (by omega) (by omega) rfl hcs.length hcs.one (by omega) (by omega) fun v' w' hI=>?_
 have hI:Inv w [] [aE v' ab 4 (css++[[.int .i64 t.kind,.int .i64 t.n,.string t.name,.slice a t.kids.length m]])] S2 w':=hI.pick [true,false]
 have hR3:=hR2.snoc hcs hcs.length
 refine ⟨fun b w'=>b=.bool (sgn s n' e || sgn s n' o)/\Inv w [] [aE v' ab 4 (css++[[.int .i64 t.kind,.int .i64 t.n,.string t.name,.slice a t.kids.length m]])] S2 w',?_,?_⟩
 ·refine Run.callPure cF cG hI (cu s n' e S2) fun w' hI=>?_
  cases he:sgn s n' e
  ·refine rpG ?_
   refine Run.callPure cF cG hI (cu s n' o S2) fun w' hI=>?_
   refine rpG ?_
   exact ⟨by simp,hI⟩
  ·refine rpG ?_
   exact ⟨by simp,hI⟩
 intro t39 _ _ _ _ _ _ _ _ _ w'
 rintro ⟨rfl,hI⟩
 refine aw (fun hb=>?_) (fun hb=>?_)
 ·rw [iS] at hb
  rw [ai hb] at hT
  simp only [aT,cL] at hT
  obtain ⟨rfl,rfl⟩:=hT
  obtain ⟨S3,hE3,hrd,hI⟩:=Inv.lendExt (A:=[]) hI
  have hrs:=RowRd.rows (hR3.monoR fun _ _ h=>RdT.mono hE3.1 h) hrd
  exact ⟨_,[],S3,rfl,hI,(hE.trans hE2).trans hE3,rfl,_,rfl,hrs⟩
 ·have hb':¬ (sgn s n' e=true ∨ sgn s n' o=true):=fun h=>by rw [<- iS,hb] at h; cases h
  rw [af hb'] at hT
  split at hT
  ·rename_i h44
   refine Run.callPure cF cG hI (cu s n' 44 S2) fun w' hI=>?_
   refine ct ?_
   rw [h44]
   refine aw (fun hb=>by cases hb) (fun _=>?_)
   have:=ib h44
   refine eD (a:=n') (b:=1) rfl rfl (by omega) ?_
   refine ⟨⟨g,n'+1,acc++[t],S2,css++[[.int .i64 t.kind,.int .i64 t.n,.string t.name,.slice a t.kids.length m]],by omega,rfl,by omega,by omega,?_,hT,hE.trans hE2,hR3,hI⟩,?_⟩
   ·rw [bh]; simp only [bk,bG]; omega
   ·simp only [intOf,dF]; omega
  ·cases hT
theorem JK {g:Nat} (hT:tm g) (hR:qn g) {s:Bs} {i d:Nat} {ts:List T} {n:Nat} {t:T} {e:Nat} (h1:gZ g s i d 93 124 []=some (ts,n))
  (h2:(sgn s n 93=true/\t=iA ts Sa/\e=n+1) ∨ (sgn s n 93=false/\∃ u m,i6 g s (n+1) d 3=some (u,m)/\sgn s m 93=true/\t=iA ts u/\e=m+1))
  (hs:s.length<=100000) (hi:i<=s.length) (hd:d<=100) (S:ad):Tri Tryz.prog Iz [.string (st s),.int .i64 (i:Int),.int .i64 (d:Int)] [] S (PQ t e):=by
 intro w hI
 have hle:=(gz g).2.2.2 _ _ _ _ _ _ _ _ h1
 have hln:=Ec _ _ _ _ _ _ _ _ _ h1
 simp only [bG] at hln
 refine uS.2 ?_
 dsimp only[uS,gM]
 refine aP hI aZ fun b6 w' hI=>?_
 refine Run.call0E tf tK hI (hT s i d 93 124 ts n S h1 hs hi hd) fun v I' S1 w'=>?_
 rintro ⟨rfl,u,rfl,hu⟩ hE1 hI
 have hI:Inv w [] [.blk b6 (.cells #[.int .i64 0,.int .i64 0,.string ⟨#[]⟩,.slice none 0 0] ab)] S1 w':=hI
 refine al (v:=u) rfl ?_
 refine al (v:=.int .i64 (n:Int)) rfl ?_
 refine eA (by omega) ?_
 refine aw (fun hb=>by cases hb) (fun _=>?_)
 refine Run.callPure cF cG hI (cu s n 93 S1) fun w' hI=>?_
 rcases h2 with ⟨h3,rfl,rfl⟩|⟨h3,x,m,h4,h5,rfl,rfl⟩
 ·rw [h3]
  refine aw (fun _=>?_) (fun hb=>by cases hb)
  refine Run.call0E cV cU hI (dE ⟨#[91,93]⟩ (by decide +kernel) (iL S1) (by simp)) fun v I' S2 w'=>?_
  rintro ⟨rfl,cs,rfl,hcs⟩ hE2 hI
  refine Run.call0E vA tp hI (rY (hu.monoT hE2.1) hcs (by omega)) fun v I' S3 w'=>?_
  rintro ⟨rfl,ds,rfl,hds⟩ hE3 hI
  refine eD (a:=n) (b:=1) rfl rfl (by omega) ?_
  obtain ⟨kv,rfl,_,_,_,a,k,rfl,_⟩:=RdT.iff.1 hds
  refine aA hI 0 rfl ac rfl rfl (by simp [Value.oneCell']) fun w' hI=>?_
  refine bw hI 0 ac rfl rfl ?_
  exact ⟨_,[],S3,rfl,hI.nil,(hE1.trans hE2).trans hE3,rfl,_,rfl,hds⟩
 ·rw [h3]
  refine aw (fun hb=>by cases hb) (fun _=>?_)
  refine eD (a:=n) (b:=1) rfl rfl (by omega) ?_
  have hle2:=(gz g).1 _ _ _ _ _ _ h4
  refine Run.call0E fD fN hI (hR s (n+1) d 3 x m S1 h4 hs (by omega) hd (by omega)) fun v I' S2 w'=>?_
  rintro ⟨rfl,cs,rfl,hcs⟩ hE2 hI
  obtain ⟨kv,rfl,_,_,_,a,k,rfl,_⟩:=RdT.iff.1 hcs
  refine al (v:=.agg _) rfl ?_
  refine al (v:=.int .i64 (m:Int)) rfl ?_
  refine aP hI aZ fun b10 w' hI=>?_
  refine aA hI 1 rfl ac rfl rfl (by simp [Value.oneCell']) fun w' hI=>?_
  refine eA (by omega) ?_
  refine aw (fun hb=>by cases hb) (fun _=>?_)
  refine Run.callPure cF cG hI (cu s m 93 S2) fun w' hI=>?_
  refine ct ?_
  rw [h5]
  refine aw (fun hb=>by cases hb) (fun _=>?_)
  refine az hI 1 ac rfl rfl ?_
  refine Run.call0E vA tp hI (rY (hu.monoT hE2.1) hcs (by omega)) fun v I' S3 w'=>?_
  rintro ⟨rfl,ds,rfl,hds⟩ hE3 hI
  refine eD (a:=m) (b:=1) rfl rfl (by omega) ?_
  obtain ⟨kv,rfl,_,_,_,a,k,rfl,_⟩:=RdT.iff.1 hds
  refine aA hI 0 rfl ac rfl rfl (by simp [Value.oneCell']) fun w' hI=>?_
  refine bw hI 0 ac rfl rfl ?_
  exact ⟨_,[],S3,rfl,hI.nil,(hE1.trans hE2).trans hE3,rfl,_,rfl,hds⟩
theorem FR {n:Bs} (h:n.length<=6):(st n).size<=maxLen:=by rw [kU]; simp only [maxLen]; omega
theorem NZ {f:Nat} (ihR:∀ g,g<f->qn g) (ihT:∀ g,g<f->tm g):Fm f:=by
 intro s i d t n S h hs hi hd w hI
 cases f with
 | zero=>simp [s4] at h
 | succ g=>
 have hR:=ihR g (by omega)
 have hT:=ihT g (by omega)
 have hle:=(gz (g+1)).2.2.1 _ _ _ _ _ h
 rw [s4] at h
 split at h
 ·cases h
 rename_i h0
 have hd0:1<=d:=by omega
 have hlt:i<s.length:=by omega
 refine vt.2 ?_
 dsimp only[vt,gM]
 refine aP hI aZ fun b6 w' hI=>?_
 have hI:Inv w [] [.blk b6 (.cells #[.int .i64 0,.int .i64 0,.string ⟨#[]⟩,.slice none 0 0] ab)] S w':=hI
 refine ⟨fun b w'=>b=.bool false/\Inv w [] [.blk b6 (.cells #[.int .i64 0,.int .i64 0,.string ⟨#[]⟩,.slice none 0 0] ab)] S w',?_,?_⟩
 ·refine eA (by omega) ?_
  refine rpG ?_
  refine fh aJ ?_
  refine ww (by omega) ?_
  refine rpG ?_
  exact ⟨rfl,hI⟩
 intro t23 _ _ _ _ _ _ _ w'
 rintro ⟨rfl,hI⟩
 refine aw (fun hb=>by cases hb) (fun _=>?_)
 refine dV aJ hlt ?_
 split at h
 ·rename_i h40
  rw [j0 hlt,bC] at h40
  refine eW (by omega) ?_
  refine aw (fun _=>?_) (fun hb=>by cases hb)
  split at h
  ·cases h
  rename_i u m hr
  split at h
  ·rename_i h41
   simp only [aT,cL] at h
   obtain ⟨rfl,rfl⟩:=h
   have hle2:=(gz g).1 _ _ _ _ _ _ hr
   refine eD (a:=i) (b:=1) rfl rfl (by omega) ?_
   refine Run.call0E fD fN hI (hR s (i+1) d 3 u m S hr hs (by omega) hd (by omega)) fun v I' S2 w'=>?_
   rintro ⟨rfl,cs,rfl,hcs⟩ hE2 hI
   obtain ⟨kv,rfl,_,_,_,a,k,rfl,_⟩:=RdT.iff.1 hcs
   refine al (v:=.agg _) rfl ?_
   refine al (v:=.int .i64 (m:Int)) rfl ?_
   refine aP hI aZ fun b8 w' hI=>?_
   refine aA hI 1 rfl ac rfl rfl (by simp [Value.oneCell']) fun w' hI=>?_
   refine eA (by omega) ?_
   refine aw (fun hb=>by cases hb) (fun _=>?_)
   refine Run.callPure cF cG hI (cu s m 41 S2) fun w' hI=>?_
   refine ct ?_
   rw [h41]
   refine aw (fun hb=>by cases hb) (fun _=>?_)
   refine az hI 1 ac rfl rfl ?_
   refine eD (a:=m) (b:=1) rfl rfl (by omega) ?_
   refine aA hI 0 rfl ac rfl rfl (by simp [Value.oneCell']) fun w' hI=>?_
   refine bw hI 0 ac rfl rfl ?_
   exact ⟨_,[],S2,rfl,hI.nil,hE2,rfl,_,rfl,hcs⟩
  ·cases h
 rename_i h40
 rw [j0 hlt,bC] at h40
 refine ei (by omega) ?_
 refine aw (fun hb=>by cases hb) (fun _=>?_)
 refine ⟨fun b w'=>b=.bool (sgn s i 91 && !sgn s (i+1) 93)/\Inv w [] [.blk b6 (.cells #[.int .i64 0,.int .i64 0,.string ⟨#[]⟩,.slice none 0 0] ab)] S w',?_,?_⟩
 ·refine dV aJ hlt ?_
  by_cases h91:s[i].toNat=91
  ·refine eW (by omega) ?_
   refine rpG ?_
   refine eD (a:=i) (b:=1) rfl rfl (by omega) ?_
   refine Run.callPure cF cG hI (cu s (i+1) 93 S) fun w' hI=>?_
   refine ct ?_
   refine rpG ?_
   exact ⟨by rw [j0 hlt,aS h91,dU],hI⟩
  ·refine ei (by omega) ?_
   refine rpG ?_
   exact ⟨by rw [j0 hlt,bg h91,gJ],hI⟩
 intro t65 _ _ _ _ _ _ _ _ _ _ w'
 rintro ⟨rfl,hI⟩
 split at h
 ·rename_i h91
  rw [h91.1,h91.2]
  refine aw (fun _=>?_) (fun hb=>by cases hb)
  split at h
  ·cases h
  rename_i ts m hts
  have h2:(sgn s m 93=true/\t=iA ts Sa/\n=m+1) ∨ (sgn s m 93=false/\∃ u k,i6 g s (m+1) (d - 1) 3=some (u,k)/\sgn s k 93=true/\t=iA ts u/\n=k+1):=by
   split at h
   ·rename_i h3
    simp only [aT,cL] at h
    exact .inl ⟨h3,h.1.symm,h.2.symm⟩
   ·rename_i h3
    split at h
    ·cases h
    rename_i u k hr
    split at h
    ·rename_i h4
     simp only [aT,cL] at h
     exact .inr ⟨cq.2 h3,u,k,hr,h4,h.1.symm,h.2.symm⟩
    ·cases h
  refine eD (a:=i) (b:=1) rfl rfl (by omega) ?_
  refine BW (a:=d) (b:=1) rfl rfl hd0 (by omega) ?_
  refine Run.call0E Fv FW hI (JK hT hR hts h2 hs (by omega) (by omega) S) fun v I' S2 w'=>?_
  rintro ⟨rfl,cs,rfl,hcs⟩ hE2 hI
  obtain ⟨kv,rfl,_,_,_,a,k,rfl,_⟩:=RdT.iff.1 hcs
  refine al (v:=.agg _) rfl ?_
  refine al (v:=.int .i64 (n:Int)) rfl ?_
  refine aA hI 0 rfl ac rfl rfl (by simp [Value.oneCell']) fun w' hI=>?_
  refine bw hI 0 ac rfl rfl ?_
  exact ⟨_,[],S2,rfl,hI.nil,hE2,rfl,_,rfl,hcs⟩
 rename_i h91
 have e91:(sgn s i 91 && !sgn s (i+1) 93)=false:=by
  cases h5:sgn s i 91
  ·rfl
  ·cases h6:sgn s (i+1) 93
   ·exact absurd ⟨h5,h6⟩ h91
   ·rfl
 rw [e91]
 refine aw (fun hb=>by cases hb) (fun _=>?_)
 refine ⟨fun b w'=>b=.bool (upp s i)/\Inv w [] [.blk b6 (.cells #[.int .i64 0,.int .i64 0,.string ⟨#[]⟩,.slice none 0 0] ab)] S w',?_,?_⟩
 ·refine dV aJ hlt ?_
  by_cases h65:65<=s[i].toNat
  ·refine ni (by omega) ?_
   refine rpG ?_
   refine dV aJ hlt ?_
   refine eL ?_
   refine rpG ?_
   refine ⟨?_,hI⟩
   rw [upp,nW hlt,aS h65,dU]
   congr 1
   rw [fq]
   omega
  ·refine ww (by omega) ?_
   refine rpG ?_
   exact ⟨by rw [upp,nW hlt,bg h65,gJ],hI⟩
 intro t83 _ _ _ _ _ _ _ _ _ w'
 rintro ⟨rfl,hI⟩
 split at h
 ·rename_i hup
  simp only [aT,cL] at h
  obtain ⟨rfl,rfl⟩:=h
  rw [hup]
  rw [upp,nW hlt,bN,bC,bC] at hup
  refine aw (fun _=>?_) (fun hb=>by cases hb)
  refine dV aJ hlt ?_
  refine Pa (c:=(s[i].toNat:Int) - 65) (IntWalk.u8_in _ (by omega)) ?_
  refine qk fK gd (IntWalk.i64_in _ (by omega)) ?_
  refine Run.callPure z1 z9 hI (sg _ S) fun w' hI=>?_
  refine eD (a:=i) (b:=1) rfl rfl (by omega) ?_
  refine aA hI 0 rfl ac rfl rfl (by simp [Value.oneCell']) fun w' hI=>?_
  refine bw hI 0 ac rfl rfl ?_
  have eg:((s.getD i 0).toNat:Int) - 65=(s[i].toNat:Int) - 65:=by rw [MP,iR hlt]; rfl
  rw [eg]
  exact ⟨_,[],S,rfl,hI.nil,Ext.refl _ _ _,rfl,_,rfl,RdT.nil (by simp [inI]) (by unfold inI; omega) (by decide +kernel) (aR _)⟩
 rename_i hup
 rw [cq.2 hup]
 refine aw (fun hb=>by cases hb) (fun _=>?_)
 refine ⟨fun b w'=>b=.bool (dig s i || (sgn s i 45 && dig s (i+1)))/\Inv w [] [.blk b6 (.cells #[.int .i64 0,.int .i64 0,.string ⟨#[]⟩,.slice none 0 0] ab)] S w',?_,?_⟩
 ·refine Run.callPure ju jt hI (gB s i S) fun w' hI=>?_
  cases hdi:dig s i
  ·refine rpG ?_
   refine dV aJ hlt ?_
   by_cases h45:s[i].toNat=45
   ·refine eW (by omega) ?_
    refine rpG ?_
    refine eD (a:=i) (b:=1) rfl rfl (by omega) ?_
    refine Run.callPure ju jt hI (gB s (i+1) S) fun w' hI=>?_
    refine rpG ?_
    exact ⟨by rw [j0 hlt,aS h45,dU,gc],hI⟩
   ·refine ei (by omega) ?_
    refine rpG ?_
    exact ⟨by rw [j0 hlt,bg h45,gJ,gc],hI⟩
  ·refine rpG ?_
   exact ⟨by rw [uV],hI⟩
 intro t106 _ _ _ _ _ _ _ _ _ _ _ _ _ _ w'
 rintro ⟨rfl,hI⟩
 split at h
 ·rename_i hdg
  have:(dig s i || (sgn s i 45 && dig s (i+1)))=true:=by rw [iS,bN]; exact hdg
  rw [this]
  refine aw (fun _=>?_) (fun hb=>by cases hb)
  obtain ⟨k,hk,rfl,_,_,hnum⟩:=AD h (by omega) S
  refine Run.callPure Dv DB hI hnum fun w' hI=>?_
  refine al (v:=Ed 2 k) rfl ?_
  refine al (v:=.int .i64 (n:Int)) rfl ?_
  refine aP hI aZ fun b10 w' hI=>?_
  refine aA hI 1 rfl ac rfl rfl (by simp [Value.oneCell']) fun w' hI=>?_
  refine eA (by omega) ?_
  refine aw (fun hb=>by cases hb) (fun _=>?_)
  refine az hI 1 ac rfl rfl ?_
  refine aA hI 0 rfl ac rfl rfl (by simp [Value.oneCell']) fun w' hI=>?_
  refine bw hI 0 ac rfl rfl ?_
  exact ⟨_,[],S,rfl,hI.nil,Ext.refl _ _ _,rfl,_,rfl,RdT.nil (by simp [inI]) hk (by decide +kernel) (aR _)⟩
 rename_i hdg
 have:(dig s i || (sgn s i 45 && dig s (i+1)))=false:=by
  rw [cq,ne_eq,iS,bN]; exact hdg
 rw [this]
 refine aw (fun hb=>by cases hb) (fun _=>?_)
 refine Run.callPure y9 xR hI (vz hlt hs S) fun w' hI=>?_
 cases hnm:tU s i with
 | none=>rw [hnm] at h; cases h
 | some q=>
 obtain ⟨name,m⟩:=q
 rw [hnm] at h
 simp only [] at h
 simp only [Mx]
 have hnl:=uW hlt hnm
 refine al (v:=.string (st name)) rfl ?_
 refine al (v:=.int .i64 (m:Int)) rfl ?_
 refine eA (by omega) ?_
 refine aw (fun hb=>by cases hb) (fun _=>?_)
 refine Run.callPure cF cG hI (cu s m 40 S) fun w' hI=>?_
 refine ct ?_
 split at h
 ·rename_i h40'
  simp only [aT,cL] at h
  obtain ⟨rfl,rfl⟩:=h
  rw [h40']
  refine aw (fun _=>?_) (fun hb=>by cases hb)
  refine Run.call0E cV cU hI (dE (st name) (FR hnl.2.2.1) (iL S) (by simp)) fun v I' S2 w'=>?_
  rintro ⟨rfl,cs,rfl,hcs⟩ hE2 hI
  obtain ⟨kv,rfl,_,_,_,a,k,rfl,_⟩:=RdT.iff.1 hcs
  refine aA hI 0 rfl ac rfl rfl (by simp [Value.oneCell']) fun w' hI=>?_
  refine bw hI 0 ac rfl rfl ?_
  exact ⟨_,[],S2,rfl,hI.nil,hE2,rfl,_,rfl,hcs⟩
 ·rename_i h40'
  rw [Bool.not_eq_false] at h40'
  rw [h40']
  refine aw (fun hb=>by cases hb) (fun _=>?_)
  split at h
  ·cases h
  rename_i ts k hts
  simp only [aT,cL] at h
  obtain ⟨rfl,rfl⟩:=h
  have hm:=ib h40'
  have hle2:=(gz g).2.2.2 _ _ _ _ _ _ _ _ hts
  refine eD (a:=m) (b:=1) rfl rfl (by omega) ?_
  refine BW (a:=d) (b:=1) rfl rfl hd0 (by omega) ?_
  refine Run.call0E tf tK hI (hT s (m+1) (d - 1) 41 41 ts k S hts hs (by omega) (by omega)) fun v I' S2 w'=>?_
  rintro ⟨rfl,u,rfl,hu⟩ hE2 hI
  refine al (v:=u) rfl ?_
  refine al (v:=.int .i64 (k:Int)) rfl ?_
  refine eA (by omega) ?_
  refine aw (fun hb=>by cases hb) (fun _=>?_)
  obtain ⟨a,c,rfl,_⟩:=id hu
  refine r7 ⟨_,_,_,rfl⟩ ?_
  refine eD (a:=k) (b:=1) rfl rfl (by omega) ?_
  refine aA hI 0 rfl ac rfl rfl (by simp [Value.oneCell']) fun w' hI=>?_
  refine bw hI 0 ac rfl rfl ?_
  exact ⟨_,[],S2,rfl,hI.nil,hE2,rfl,_,rfl,RdT.iff.2 ⟨_,rfl,by simp [inI,T.kind,JD],by simp [inI,T.n,JD],FR hnl.2.2.1,hu⟩⟩
theorem Qy {f:Nat} (ihR:∀ g,g<f->qn g) (ihP:∀ g,g<f->Fm g):qn f:=by
 intro s i d l t n S h hs hi hd hl w hI
 cases f with
 | zero=>simp [i6] at h
 | succ f=>
 refine yL.2 ?_
 dsimp only[yL,jr]
 refine aP hI aZ fun b8 w' hI=>?_
 have hI:Inv w [] [.blk b8 (.cells #[.int .i64 0,.int .i64 0,.string ⟨#[]⟩,.slice none 0 0] ab)] S w':=hI
 cases l with
 | zero=>
  rw [i6] at h
  refine eW rfl ?_
  refine aw (fun _=>?_) (fun hb=>by cases hb)
  refine Run.call0E FL EZ hI (ihP f (by omega) s i d t n S h hs hi hd) fun v I' S2 w'=>?_
  rintro ⟨rfl,cs,rfl,hcs⟩ hE2 hI
  obtain ⟨kv,rfl,_,_,_,a,k,rfl,_⟩:=RdT.iff.1 hcs
  refine al (v:=.agg _) rfl ?_
  refine al (v:=.int .i64 (n:Int)) rfl ?_
  refine aA hI 0 rfl ac rfl rfl (by simp [Value.oneCell']) fun w' hI=>?_
  refine bw hI 0 ac rfl rfl ?_
  exact ⟨_,[],S2,rfl,hI.nil,hE2,rfl,_,rfl,hcs⟩
 | succ l=>
  rw [i6] at h
  split at h
  ·cases h
  rename_i t0 n0 hr
  have hle:=(gz f).1 _ _ _ _ _ _ hr
  refine ei (by omega) ?_
  refine aw (fun hb=>by cases hb) (fun _=>?_)
  refine BW (a:=l+1) (b:=1) rfl rfl (by omega) (by omega) ?_
  rw [Nat.add_sub_cancel]
  refine Run.call0E fD fN hI (ihR f (by omega) s i d l t0 n0 S hr hs hi hd (by omega)) fun v I' S1 w'=>?_
  rintro ⟨rfl,cs,rfl,hcs⟩ hE1 hI
  obtain ⟨kv,rfl,_,_,_,a,k,rfl,_⟩:=RdT.iff.1 hcs
  refine al (v:=.agg _) rfl ?_
  refine al (v:=.int .i64 (n0:Int)) rfl ?_
  refine aP hI aZ fun b10 w' hI=>?_
  refine aA hI 1 rfl ac rfl rfl (by simp [Value.oneCell']) fun w' hI=>?_
  refine ⟨fun a w'=>∃ (f' n':Nat) (t':T) (ds:List Value) (S1:ad),f'<=f/\a=.int .i64 (n':Int)/\n'<=s.length/\Je f' s n' d l t'=some (t,n)/\Ext w.heap.size [] S S1/\RdT S1 ds t'/\Inv w [] [.blk b8 (.cells #[.int .i64 0,.int .i64 0,.string ⟨#[]⟩,.slice none 0 0] ab),.blk b10 (.cells ds.toArray ab)] S1 w',
   fun a _=>s.length+1 - (intOf a).toNat,⟨f,n0,t0,_,S1,aM _,rfl,hle.2,h,hE1,hcs,hI⟩,?_⟩
  clear h hE1 hcs hI hr hle
  intro _ _ _ _ t11 _ _ _ _ _ _ _ _ _ _ _ _ _ _ _ _ _ _ _ _ _ _ _ _ _ _ _ _ _ _ _ _ _ _ _ _ _ _ _ _ _ _ w'
  rintro ⟨f',n',t',ds,S1,hf',rfl,hn',ho,hE,hds,hI⟩
  obtain ⟨kd,rfl,_,_,hts',da,dm,rfl,_⟩:=RdT.iff.1 hds
  cases f' with
  | zero=>simp [Je] at ho
  | succ g=>
  rw [Je] at ho
  refine ni (by omega) ?_
  refine aw (fun _=>?_) (fun hb=>by cases hb)
  refine Run.callPure Nw Nu hI (Lz hs hn' S1) fun w' hI=>?_
  cases hop:opF s n' with
  | none=>
   rw [hop] at ho
   simp only [aT,cL] at ho
   obtain ⟨rfl,rfl⟩:=ho
   simp only [opV]
   refine al (v:=.string ⟨#[]⟩) rfl ?_
   refine al (v:=.int .i64 (n':Int)) rfl ?_
   refine ⟨fun b w'=>b=.bool true/\Inv w [] [.blk b8 (.cells #[.int .i64 0,.int .i64 0,.string ⟨#[]⟩,.slice none 0 0] ab),.blk b10 (.cells #[.int .i64 t'.kind,.int .i64 t'.n,.string t'.name,.slice da t'.kids.length dm] ab)] S1 w',?_,?_⟩
   ·refine bt ?_
    rw [aS rfl]
    refine rpG ?_
    exact ⟨rfl,hI⟩
   intro t48 _ _ _ _ _ _ _ w'
   rintro ⟨rfl,hI⟩
   refine aw (fun _=>?_) (fun hb=>by cases hb)
   refine az hI 1 ac rfl rfl ?_
   refine aA hI 0 rfl ac rfl rfl (by simp [Value.oneCell']) fun w' hI=>?_
   refine bw hI 0 ac rfl rfl ?_
   exact ⟨_,[],S1,rfl,hI.nil,hE,rfl,_,rfl,hds⟩
  | some q=>
   obtain ⟨name,after⟩:=q
   rw [hop] at ho
   simp only [] at ho
   simp only [opV]
   have hol:=Pp hop
   refine al (v:=.string (st name)) rfl ?_
   refine al (v:=.int .i64 (after:Int)) rfl ?_
   refine ⟨fun b w'=>b=.bool (!decide (bV (st name)=((l+1:Nat):Int)))/\Inv w [] [.blk b8 (.cells #[.int .i64 0,.int .i64 0,.string ⟨#[]⟩,.slice none 0 0] ab),.blk b10 (.cells #[.int .i64 t'.kind,.int .i64 t'.n,.string t'.name,.slice da t'.kids.length dm] ab)] S1 w',?_,?_⟩
   ·refine Bp (b:=[]) ?_
    rw [bg hol.2.2.2]
    refine rpG ?_
    refine Run.callPure eY fe hI (dK _ S1) fun w' hI=>?_
    refine gV ?_
    refine rpG ?_
    exact ⟨rfl,hI⟩
   intro t48 _ _ _ _ _ _ _ w'
   rintro ⟨rfl,hI⟩
   split at ho
   ·rename_i hlv
    rw [aS hlv]
    refine aw (fun hb=>by cases hb) (fun _=>?_)
    split at ho
    ·cases ho
    rename_i r e hr
    have hle:=(gz g).1 _ _ _ _ _ _ hr
    refine BW (a:=l+1) (b:=1) rfl rfl (by omega) (by omega) ?_
    rw [Nat.add_sub_cancel]
    refine Run.call0E fD fN hI (ihR g (by omega) s after d l r e S1 hr hs (by omega) hd (by omega)) fun v I' S2 w'=>?_
    rintro ⟨rfl,es,rfl,hes⟩ hE2 hI
    obtain ⟨ke,rfl,_,_,_,ea,em,rfl,_⟩:=RdT.iff.1 hes
    refine al (v:=.agg _) rfl ?_
    refine al (v:=.int .i64 (e:Int)) rfl ?_
    refine aP hI aZ fun b14 w' hI=>?_
    refine aA hI 2 rfl ac rfl rfl (by simp [Value.oneCell']) fun w' hI=>?_
    refine eA (by omega) ?_
    refine aw (fun hb=>by cases hb) (fun _=>?_)
    refine az hI 1 ac rfl rfl ?_
    refine az hI 2 ac rfl rfl ?_
    refine qD (v:=fun b=>.slice (some ⟨b,0,none⟩) 2 2) (o:=.cells #[.int .i64 t'.kind,.int .i64 t'.n,.string t'.name,.slice da t'.kids.length dm,.int .i64 r.kind,.int .i64 r.n,.string r.name,.slice ea r.kids.length em] ab) hI (by kernel_rfl) fun b20 w' hI=>?_
    obtain ⟨S3,hI,hE3,hS3⟩:=Inv.pub1 (A:=[_,_,_]) hI
    have hks:=KD hS3 (RdT.mono (hE2.1.trans hE3.1) hds) (RdT.mono hE3.1 hes)
    refine Run.call0E cV cU hI (dE (st name) (FR hol.2.2.1) hks (by simp)) fun v I' S4 w'=>?_
    rintro ⟨rfl,gs,rfl,hgs⟩ hE4 hI
    obtain ⟨kg,rfl,_,_,_,ga,gm,rfl,_⟩:=RdT.iff.1 hgs
    have hE':=((hE.trans hE2).trans hE3).trans hE4
    refine aA hI 1 rfl ac rfl rfl (by simp [Value.oneCell']) fun w' hI=>?_
    split at ho
    ·rename_i hl2
     subst hl2
     simp only [aT,cL] at ho
     obtain ⟨rfl,rfl⟩:=ho
     refine eW rfl ?_
     refine aw (fun _=>?_) (fun hb=>by cases hb)
     refine az hI 1 ac rfl rfl ?_
     refine aA hI 0 rfl ac rfl rfl (by simp [Value.oneCell']) fun w' hI=>?_
     refine bw hI 0 ac rfl rfl ?_
     exact ⟨_,[],S4,rfl,hI.nil,hE',rfl,_,rfl,hgs⟩
    ·refine ei (by omega) ?_
     refine aw (fun hb=>by cases hb) (fun _=>?_)
     refine ⟨⟨g,e,_,_,S4,by omega,rfl,hle.2,ho,hE',hgs,hI.pick [true,true,false]⟩,?_⟩
     simp only [intOf,dF]
     omega
   ·rename_i hlv
    rw [bg hlv]
    simp only [aT,cL] at ho
    obtain ⟨rfl,rfl⟩:=ho
    refine aw (fun _=>?_) (fun hb=>by cases hb)
    refine az hI 1 ac rfl rfl ?_
    refine aA hI 0 rfl ac rfl rfl (by simp [Value.oneCell']) fun w' hI=>?_
    refine bw hI 0 ac rfl rfl ?_
    exact ⟨_,[],S1,rfl,hI.nil,hE,rfl,_,rfl,hds⟩
theorem N8:∀ F f,f<F->qn f/\Fm f/\tm f
 | 0,f,h=>by omega
 | F+1,f,h=>by
  have ih:=N8 F
  have hR:qn f:=Qy (fun g hg=>(ih g (by omega)).1) (fun g hg=>(ih g (by omega)).2.1)
  have hT:tm f:=PG fun g hg=>(ih g (by omega)).1
  exact ⟨hR,NZ (fun g hg=>(ih g (by omega)).1) (fun g hg=>(ih g (by omega)).2.2),hT⟩
theorem Eg (f:Nat):qn f:=(N8 (f+1) f (by omega)).1
end
end
section
open Go Go.RowKit

def jB (cs:List Value) (n:Nat):Prop:=cs=[.int .u8 (n:Int)]/\n<256
abbrev rdI (br:Nat) (sl:Value) (p:Nat):Item:=.blk br (.cells #[sl,.int .i64 (p:Int)] HE)
abbrev rdP (br:Nat):Value:=.pointer (some ⟨br,0,none⟩)
section
variable {P:Program} {w:World} {K:Value->World->Prop}
theorem Kd {T:TypeId} {cx cy:Bool} {x y:Int} {a b:Nat} (hx:x=a) (hy:y=b) (hb:0<b) (hk:K (.int .i64 ((a % b:Nat):Int)) w):Run P (cw .rem T cx cy (.int .i64 x) (.int .i64 y)) w K:=by
 subst hx hy
 exact Lk hb hk
theorem K7 {T:TypeId} {cx cy:Bool} {x y:Int} {a b:Nat} (hx:x=a) (hy:y=b) (hb:0<b) (ha:a<=9223372036854775807) (hk:K (.int .i64 ((a / b:Nat):Int)) w):Run P (cw .quo T cx cy (.int .i64 x) (.int .i64 y)) w K:=by
 subst hx hy
 exact RR hb ha hk
theorem R8 {T:TypeId} {cx cy:Bool} {x y:Int} {a b:Nat} (hx:x=a) (hy:y=b) (ha:a<4611686018427387904) (hb:b<4611686018427387904) (hk:K (.int .i64 ((a ^^^ b:Nat):Int)) w):Run P (cw .xor T cx cy (.int .i64 x) (.int .i64 y)) w K:=by
 subst hx hy
 exact RQ ha hb hk
end
theorem RdSl.u8 {S:ad} {sl:Value} {ys:List Nat} (h:RdSl S 1 jB sl ys) (h0:0<ys.length):∃ b o cap c E fz,sl=.slice (some ⟨b,o,none⟩) ys.length cap/\S b=some (.cells c E fz)/\
  ∀ i,i<ys.length->∃ y:Nat,c[o+i * 1]?=some (.int .u8 (y:Int))/\y<256:=by
 obtain ⟨a,cap,rfl,hl,hc,h⟩:=h
 rcases h with rfl|⟨b,o,c,E,fz,rfl,hS,hR⟩
 ·simp at h0
 ·refine ⟨b,o,cap,c,E,fz,rfl,hS,fun i hi=>?_⟩
  obtain ⟨h1,h2⟩:=hR i hi
  exact ⟨ys[i],aL h1 0 _ rfl,h2⟩
section
attribute [local irreducible] Run CondV aq aK
abbrev TQ (S:ad) (br:Nat) (sl:Value) (p n:Nat):Value->List Item->ad->Prop:=fun v I' S'=>S'=S/\I'=[rdI br sl (p+1)]/\∃ k:Nat,k<n/\v=.int .i64 (k:Int)
theorem cY {ys:List Nat} {S:ad} {sl:Value} {br p n:Nat} (h:RdSl S 1 jB sl ys) (hp:p<=1000000000000) (hn:0<n):Tri Tryz.prog AP [rdP br,.int .i64 (n:Int)] [rdI br sl p] S (TQ S br sl p n):=by
 intro w hI
 refine oC.2 ?_
 dsimp only[oC,aO]
 obtain ⟨X,hX⟩:∃ X,X=bu [rdI br sl p]:=⟨_,rfl⟩
 rw [<- hX] at hI ⊢
 have hsl:∃ a m cap,sl=.slice a m cap/\m=ys.length:=by
  obtain ⟨a,cap,e,_⟩:=h
  exact ⟨a,_,cap,e,rfl⟩
 refine ar ?_
 refine aC pU ?_
 refine bb hI 0 aI rfl rfl ?_
 refine bn (by omega) ?_
 refine ar ?_
 refine aC pU ?_
 refine df hI 0 (n:=1) rfl (by decide +kernel) rfl (by simp) (by simp [Value.cells,Value.oneCell']) fun w' hI=>?_
 have hI:Inv w X [rdI br sl (p+1)] S w':=hI
 have hN:∃ N:Nat,N=ys.length:=⟨_,rfl⟩
 refine ⟨fun t w'=>t=.bool (decide (ys.length=0))/\Inv w X [rdI br sl (p+1)] S w',?_,?_⟩
 ·refine eA (by omega) ?_
  refine JQ (fun _=>?_) (fun hb=>by simp at hb)
  refine ar ?_
  refine aC eR ?_
  refine bb hI 0 gG rfl rfl ?_
  refine aF h dS ?_
  refine bl ?_
  refine sK ?_
  refine ⟨?_,hI⟩
  simp
 intro t24 _ _ _ _ _ _ _ _ _ w'
 rintro ⟨rfl,hI⟩
 refine aH (fun _=>⟨_,_,_,rfl,hI,Ext.refl _ _ _,rfl,rfl,0,hn,rfl⟩) (fun h0=>?_)
 have h0:0<ys.length:=by omega
 obtain ⟨b,o,cap,c,E,fz,rfl,hS,hc⟩:=h.u8 h0
 refine ar ?_
 refine aC pU ?_
 refine bb hI 0 aI rfl rfl ?_
 refine kY (by omega) ?_
 have ep:((p+1:Nat):Int) - 1=(p:Int):=by omega
 rw [ep]
 refine ar ?_
 refine aC eR ?_
 refine bb hI 0 gG rfl rfl ?_
 refine gL dS ?_
 refine bL ?_
 refine aH (fun hlt=>?_) (fun _=>?_)
 ·have hlt':p<ys.length:=by omega
  obtain ⟨y,hy,hy2⟩:=hc p hlt'
  refine ar ?_
  refine aC eR ?_
  refine bb hI 0 gG rfl rfl ?_
  refine aD dS hlt' ?_
  refine cA Ao ((hI.cellS hS).trans hy) ?_
  refine qk fK gd (IntWalk.i64_in _ (by omega)) ?_
  refine Lk hn ?_
  exact ⟨_,_,_,rfl,hI,Ext.refl _ _ _,rfl,rfl,y % n,px _ hn,rfl⟩
 ·obtain ⟨i1,hd1⟩:∃ i1,i1=p % ys.length:=⟨_,rfl⟩
  obtain ⟨i2,hd2⟩:∃ i2,i2=(p * 7+3) % ys.length:=⟨_,rfl⟩
  obtain ⟨q,hdq⟩:∃ q,q=p / ys.length:=⟨_,rfl⟩
  have hi1:i1<ys.length:=by rw [hd1]; exact px _ h0
  have hi2:i2<ys.length:=by rw [hd2]; exact px _ h0
  have hq:q<=p:=by rw [hdq]; exact Nat.div_le_self ..
  obtain ⟨y1,hv1,hy1⟩:=hc i1 hi1
  obtain ⟨y2,hv2,hy2⟩:=hc i2 hi2
  skip
  refine ⟨fun D x6 Q6 Rh Rc Q1 Rm QY QX Q8 Ok Q4 N4 O2 Q5 QZ Rk Rg SH Sh SM TH Te TA Uy UA UB Uz O0 Pg ET CE BK zR Bq Ct B5 BI Eo EV DO Eh DN D6 CD Bn Af w_=>Fx D 0 [Af=.pointer (some ⟨br,0,none⟩),Bn=.pointer (some ⟨br,0,none⟩),CD=.pointer (some ⟨br,0,none⟩),D6=.slice (some ⟨b,o,none⟩) ys.length cap,DN=.int .i64 (p:Int),Eh=.pointer (some ⟨br,0,none⟩),DO=.pointer (some ⟨br,0,none⟩),EV=.pointer (some ⟨br,0,none⟩),Eo=.slice (some ⟨b,o,none⟩) ys.length cap,BI=.int .i64 (ys.length:Int),B5=.int .i64 (((i1:Nat):Int)),Ct=.pointer (some ⟨b,o+i1 * 1,none⟩),Bq=.int .u8 ((y1:Nat):Int),zR=.int .i64 (((y1:Nat):Int)),BK=.int .i64 ((((y1:Nat):Int) * 131)),CE=.pointer (some ⟨br,0,none⟩),ET=.pointer (some ⟨br,0,none⟩),Pg=.pointer (some ⟨br,0,none⟩),O0=.slice (some ⟨b,o,none⟩) ys.length cap,Uz=.int .i64 (p:Int),UB=.int .i64 (((p:Int) * 7)),UA=.int .i64 ((((p:Int) * 7)+3)),Uy=.pointer (some ⟨br,0,none⟩),TA=.pointer (some ⟨br,0,none⟩),Te=.pointer (some ⟨br,0,none⟩),TH=.slice (some ⟨b,o,none⟩) ys.length cap,SM=.int .i64 (ys.length:Int),Sh=.int .i64 (((i2:Nat):Int)),SH=.pointer (some ⟨b,o+i2 * 1,none⟩),Rg=.int .u8 ((y2:Nat):Int),Rk=.int .i64 (((y2:Nat):Int)),QZ=.int .i64 ((((y2:Nat):Int) * 1117)),Q5=.int .i64 (((((y1:Nat):Int) * 131)+(((y2:Nat):Int) * 1117))),O2=.int .i64 (p:Int),N4=.int .i64 (((p:Int) * 29)),Q4=.int .i64 ((((((y1:Nat):Int) * 131)+(((y2:Nat):Int) * 1117))+((p:Int) * 29))),Ok=.int .i64 (p:Int),Q8=.pointer (some ⟨br,0,none⟩),QX=.pointer (some ⟨br,0,none⟩),QY=.pointer (some ⟨br,0,none⟩),Rm=.slice (some ⟨b,o,none⟩) ys.length cap,Q1=.int .i64 (ys.length:Int),Rc=.int .i64 (((q:Nat):Int)),Rh=.int .i64 ((((q:Nat):Int) * 53)),Q6=.int .i64 (((((((y1:Nat):Int) * 131)+(((y2:Nat):Int) * 1117))+((p:Int) * 29))+(((q:Nat):Int) * 53))),x6=.int .i64 (((((((y1:Nat):Int) * 131)+(((y2:Nat):Int) * 1117))+((p:Int) * 29))+(((q:Nat):Int) * 53)))]/\Inv w X [rdI br (.slice (some ⟨b,o,none⟩) ys.length cap) (p+1)] S w_,⟨Fx.nil _ _,hI.draw⟩,⟨?_,?_,?_,?_,?_,?_,?_,?_,?_,?_,?_,?_,?_,?_,?_,?_,?_,?_,?_,?_,?_,?_,?_,?_,?_,?_,?_,?_,?_,?_,?_,?_,?_,?_,?_,?_,?_,?_,?_,?_,?_,?_,?_,?_,?_,?_,trivial⟩,?_⟩
  all_goals (intro D bI; intros; rename_i x6 Q6 Rh Rc Q1 Rm QY QX Q8 Ok Q4 N4 O2 Q5 QZ Rk Rg SH Sh SM TH Te TA Uy UA UB Uz O0 Pg ET CE BK zR Bq Ct B5 BI Eo EV DO Eh DN D6 CD Bn Af w_ hA_; have hF_:=hA_.1; obtain ⟨⟨cJ,cH,cK,cI,cN,cP,cz,dC,ek,fZ,dr,dM,fj,gN,ic,i9,kF,n4,rH,iZ,vB,uR,vY,xi,HX,TD,St,Tk,Tw,Uf,Tp,TZ,Sl,Sy,TV,TS,TM,So,Tu,Sx,Tb,TT,SS,TY,SB,Uu,_⟩,hI⟩:=hA_)
  ·exact ⟨hF_.set 0 rfl,hI⟩
  ·obtain rfl:=cJ ‹_›
   refine ar ?_
   exact ⟨hF_.set 1 rfl,hI⟩
  ·obtain rfl:=cH ‹_›
   refine aC eR ?_
   exact ⟨hF_.set 2 rfl,hI⟩
  ·obtain rfl:=cK ‹_›
   refine bb hI 0 gG rfl rfl ?_
   exact ⟨hF_.set 3 rfl,hI⟩
  ·exact ⟨hF_.set 4 rfl,hI⟩
  ·exact ⟨hF_.set 5 rfl,hI⟩
  ·obtain rfl:=cP ‹_›
   refine ar ?_
   exact ⟨hF_.set 6 rfl,hI⟩
  ·obtain rfl:=cz ‹_›
   refine aC eR ?_
   exact ⟨hF_.set 7 rfl,hI⟩
  ·obtain rfl:=dC ‹_›
   refine bb hI 0 gG rfl rfl ?_
   exact ⟨hF_.set 8 rfl,hI⟩
  ·obtain rfl:=ek ‹_›
   refine gL dS ?_
   exact ⟨hF_.set 9 rfl,hI⟩
  ·obtain rfl:=cN ‹_›
   obtain rfl:=fZ ‹_›
   refine Kd (a:=p) (b:=ys.length) (by omega) rfl h0 ?_; rw [<- hd1]
   exact ⟨hF_.set 10 rfl,hI⟩
  ·obtain rfl:=cI ‹_›
   obtain rfl:=dr ‹_›
   refine aD dS hi1 ?_
   exact ⟨hF_.set 11 rfl,hI⟩
  ·obtain rfl:=dM ‹_›
   refine cA Ao ((hI.cellS hS).trans hv1) ?_
   exact ⟨hF_.set 12 rfl,hI⟩
  ·obtain rfl:=fj ‹_›
   refine qk fK gd (IntWalk.i64_in _ (by omega)) ?_
   exact ⟨hF_.set 13 rfl,hI⟩
  ·obtain rfl:=gN ‹_›
   refine AV (by omega) ?_
   exact ⟨hF_.set 14 rfl,hI⟩
  ·exact ⟨hF_.set 15 rfl,hI⟩
  ·obtain rfl:=i9 ‹_›
   refine ar ?_
   exact ⟨hF_.set 16 rfl,hI⟩
  ·obtain rfl:=kF ‹_›
   refine aC eR ?_
   exact ⟨hF_.set 17 rfl,hI⟩
  ·obtain rfl:=n4 ‹_›
   refine bb hI 0 gG rfl rfl ?_
   exact ⟨hF_.set 18 rfl,hI⟩
  ·exact ⟨hF_.set 19 rfl,hI⟩
  ·obtain rfl:=iZ ‹_›
   refine AV (by omega) ?_
   exact ⟨hF_.set 20 rfl,hI⟩
  ·obtain rfl:=vB ‹_›
   refine bn (by omega) ?_
   exact ⟨hF_.set 21 rfl,hI⟩
  ·exact ⟨hF_.set 22 rfl,hI⟩
  ·obtain rfl:=vY ‹_›
   refine ar ?_
   exact ⟨hF_.set 23 rfl,hI⟩
  ·obtain rfl:=xi ‹_›
   refine aC eR ?_
   exact ⟨hF_.set 24 rfl,hI⟩
  ·obtain rfl:=HX ‹_›
   refine bb hI 0 gG rfl rfl ?_
   exact ⟨hF_.set 25 rfl,hI⟩
  ·obtain rfl:=TD ‹_›
   refine gL dS ?_
   exact ⟨hF_.set 26 rfl,hI⟩
  ·obtain rfl:=uR ‹_›
   obtain rfl:=St ‹_›
   refine Kd (a:=p * 7+3) (b:=ys.length) (by omega) rfl h0 ?_; rw [<- hd2]
   exact ⟨hF_.set 27 rfl,hI⟩
  ·obtain rfl:=rH ‹_›
   obtain rfl:=Tk ‹_›
   refine aD dS hi2 ?_
   exact ⟨hF_.set 28 rfl,hI⟩
  ·obtain rfl:=Tw ‹_›
   refine cA Ao ((hI.cellS hS).trans hv2) ?_
   exact ⟨hF_.set 29 rfl,hI⟩
  ·obtain rfl:=Uf ‹_›
   refine qk fK gd (IntWalk.i64_in _ (by omega)) ?_
   exact ⟨hF_.set 30 rfl,hI⟩
  ·obtain rfl:=Tp ‹_›
   refine AV (by omega) ?_
   exact ⟨hF_.set 31 rfl,hI⟩
  ·obtain rfl:=ic ‹_›
   obtain rfl:=TZ ‹_›
   refine bn (by omega) ?_
   exact ⟨hF_.set 32 rfl,hI⟩
  ·exact ⟨hF_.set 33 rfl,hI⟩
  ·obtain rfl:=Sy ‹_›
   refine AV (by omega) ?_
   exact ⟨hF_.set 34 rfl,hI⟩
  ·obtain rfl:=Sl ‹_›
   obtain rfl:=TV ‹_›
   refine bn (by omega) ?_
   exact ⟨hF_.set 35 rfl,hI⟩
  ·exact ⟨hF_.set 36 rfl,hI⟩
  ·exact ⟨hF_.set 37 rfl,hI⟩
  ·obtain rfl:=So ‹_›
   refine ar ?_
   exact ⟨hF_.set 38 rfl,hI⟩
  ·obtain rfl:=Tu ‹_›
   refine aC eR ?_
   exact ⟨hF_.set 39 rfl,hI⟩
  ·obtain rfl:=Sx ‹_›
   refine bb hI 0 gG rfl rfl ?_
   exact ⟨hF_.set 40 rfl,hI⟩
  ·obtain rfl:=Tb ‹_›
   refine gL dS ?_
   exact ⟨hF_.set 41 rfl,hI⟩
  ·obtain rfl:=TM ‹_›
   obtain rfl:=TT ‹_›
   refine K7 (a:=p) (b:=ys.length) rfl rfl h0 (by omega) ?_; rw [<- hdq]
   exact ⟨hF_.set 42 rfl,hI⟩
  ·obtain rfl:=SS ‹_›
   refine AV (by omega) ?_
   exact ⟨hF_.set 43 rfl,hI⟩
  ·obtain rfl:=TS ‹_›
   obtain rfl:=TY ‹_›
   refine bn (by omega) ?_
   exact ⟨hF_.set 44 rfl,hI⟩
  ·obtain rfl:=SB ‹_›
   exact ⟨hF_.set 45 rfl,hI⟩
  obtain ⟨rfl,rfl,rfl,rfl,rfl,rfl,rfl,rfl,rfl,rfl,rfl,rfl,rfl,rfl,rfl,rfl,rfl,rfl,rfl,rfl,rfl,rfl,rfl,rfl,rfl,rfl,rfl,rfl,rfl,rfl,rfl,rfl,rfl,rfl,rfl,rfl,rfl,rfl,rfl,rfl,rfl,rfl,rfl,rfl,rfl,rfl,_⟩:=hF_.all
  clear hF_ cJ cH cK cI cN cP cz dC ek fZ dr dM fj gN ic i9 kF n4 rH iZ vB uR vY xi HX TD St Tk Tw Uf Tp TZ Sl Sy TV TS TM So Tu Sx Tb TT SS TY SB Uu
  obtain ⟨x,hx⟩:∃ x:Nat,((((((y1:Nat):Int) * 131)+(((y2:Nat):Int) * 1117))+((p:Int) * 29))+(((q:Nat):Int) * 53))=(x:Int):=⟨(((((((y1:Nat):Int) * 131)+(((y2:Nat):Int) * 1117))+((p:Int) * 29))+(((q:Nat):Int) * 53))).toNat,by omega⟩
  have hx2:x<=10000000000000000:=by omega
  rw [hx]
  refine K7 (a:=x) (b:=64) rfl rfl (by omega) (by omega) ?_
  refine R8 (a:=x) (b:=x / 64) rfl rfl (by omega) (by omega) ?_
  refine Lk hn ?_
  exact ⟨_,_,_,rfl,hI,Ext.refl _ _ _,rfl,rfl,_,px _ hn,rfl⟩
theorem mq {ys:List Nat} {ns:List Int} {S:ad} {sl v:Value} {br p:Nat} (h:RdSl S 1 jB sl ys) (hv:RdSl S 1 l4 v ns) (h0:0<ns.length) (hp:p<=1000000000000) :
  Tri Tryz.prog C4 [rdP br,v] [rdI br sl p] S fun r I' S'=>S'=S/\I'=[rdI br sl (p+1)]/\∃ n∈ns,r=.int .i64 n:=by
 intro w hI
 refine pO.2 ?_
 dsimp only[pO,aO]
 refine aF hv dD ?_
 refine Run.call (A:=[]) bK bJ hI (cY h hp h0) fun v' I' S' w'=>?_
 rintro ⟨rfl,rfl,k,hk,rfl⟩ _ hI
 obtain ⟨b,o,cap,c,E,fz,rfl,hS,hR⟩:=hv.at_ hk
 refine aD dD hk ?_
 refine cA aI ((hI.cellS hS).trans (aL hR 0 _ rfl)) ?_
 exact ⟨_,_,_,rfl,hI,Ext.refl _ _ _,rfl,rfl,_,bQ hk,rfl⟩
theorem tl {ys:List Nat} {ns:List ByteArray} {S:ad} {sl v:Value} {br p:Nat} (h:RdSl S 1 jB sl ys) (hv:RdSl S 1 oP v ns) (h0:0<ns.length) (hp:p<=1000000000000) :
  Tri Tryz.prog Ge [rdP br,v] [rdI br sl p] S fun r I' S'=>S'=S/\I'=[rdI br sl (p+1)]/\∃ n∈ns,r=.string n:=by
 intro w hI
 refine sf.2 ?_
 dsimp only[sf,aO]
 refine aF hv bM ?_
 refine Run.call (A:=[]) bK bJ hI (cY h hp h0) fun v' I' S' w'=>?_
 rintro ⟨rfl,rfl,k,hk,rfl⟩ _ hI
 obtain ⟨b,o,cap,c,E,fz,rfl,hS,hR⟩:=hv.at_ hk
 refine aD bM hk ?_
 refine cA aN ((hI.cellS hS).trans (aL hR 0 _ rfl)) ?_
 exact ⟨_,_,_,rfl,hI,Ext.refl _ _ _,rfl,rfl,_,bQ hk,rfl⟩
theorem JU {ys:List Nat} {S:ad} {v:Value} (h:RdSl S 1 jB v ys) :
  Tri Tryz.prog IH [v] [] S fun r I' S'=>S'=S/\∃ br sl ys',r=rdP br/\I'=[rdI br sl 0]/\RdSl S 1 jB sl ys':=by
 intro w hI
 refine vp.2 ?_
 dsimp only[vp,aG]
 refine ⟨fun t w'=>(∃ ys',RdSl S 1 jB t ys')/\Inv w [] [] S w',?_,?_⟩
 ·refine aF h dS ?_
  refine eU ?_
  refine aH (fun hgt=>?_) (fun _=>⟨⟨_,h⟩,hI⟩)
  obtain ⟨a,cap,rfl,hl,hc,hh⟩:=id h
  refine Gs (h:=2000) dS (by omega) ?_
  exact ⟨⟨_,RdSl.to h (by omega)⟩,hI⟩
 intro t0 _ _ _ _ _ w'
 rintro ⟨⟨ys',hr⟩,hI⟩
 obtain ⟨a,cap,rfl,_⟩:=id hr
 refine Run.of (v:=.agg #[.slice a ys'.length cap,.int .i64 0]) (w':=w') ?_ ?_
 ·unfold cn
  rw [Sem.run_bind,run_build w' HE _ #[.slice a ys'.length cap,.int .i64 0] (by kernel_rfl),Result.andThen_ok]
  rfl
 refine bp hI fun br w' hI=>?_
 exact ⟨_,_,_,rfl,hI,Ext.refl _ _ _,rfl,br,_,ys',rfl,rfl,hr⟩
end
end
end Go.Proofs.YtcpgagfdeflbkaaGreatDoor
