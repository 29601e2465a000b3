/- Texts read: spec.l1Struct, l1Chain, l2Read, l2Prime, l2Terms, l2Items. (printed by gen_read.py) -/
import Derived.Test.YtbocelianhcfmaaGreatDoorZEg5
namespace Go.Proofs.YtbocelianhcfmaaGreatDoor
open Go Go.RowKit
theorem MW {s:Bs} {i e:Nat} {t:T} (hn:LA s i=some (t,e)):i<e/\e<=s.length:=by
 unfold LA at hn
 obtain ⟨fr,hfr⟩:∃ fr,fr=if sgn s i 45=true then i+1 else i:=⟨_,rfl⟩
 simp only [<- hfr] at hn
 have hle:=CM s 4 fr
 have hfi:i<=fr/\fr<=i+1:=by rw [hfr]; split <;> omega
 split at hn
 ·cases hn
 rename_i hc
 simp only [not_or] at hc
 simp only [Option.some.injEq,Prod.mk.injEq] at hn
 obtain ⟨_,rfl⟩:=hn
 have h2:fr<pk s 4 fr:=by
  rcases Nat.lt_or_ge fr (pk s 4 fr) with h|h
  ·exact h
  ·refine absurd ?_ hc.1
   rw [cut,List.drop_eq_nil_of_le]
   rw [List.length_take]
   omega
 have:=yR (tP s 4 fr (pk s 4 fr - 1) (by omega) (by omega))
 omega
theorem fI:∀ f:Nat,(∀ s i d l t n,gw f s i d l=some (t,n)->i<n/\n<=s.length)/\(∀ s i d l t0 t n,EA f s i d l t0=some (t,n)->i<=s.length->i<=n/\n<=s.length)/\
  (∀ s i d t n,rf f s i d=some (t,n)->i<n/\n<=s.length)/\(∀ s i d e o acc ts n,ge f s i d e o acc=some (ts,n)->i<n/\n<s.length)
 | 0=>⟨fun s i d l t n h=>by simp [gw] at h,fun s i d l t0 t n h=>by simp [EA] at h,fun s i d t n h=>by simp [rf] at h,fun s i d e o acc ts n h=>by simp [ge] at h⟩
 | f+1=>by
  obtain ⟨h1,h2,h3,h4⟩:=fI f
  refine ⟨fun s i d l t n h=>?_,fun s i d l t0 t n h hi=>?_,fun s i d t n h=>?_,fun s i d e o acc ts n h=>?_⟩
  ·cases l with
   | zero=>rw [gw] at h; exact h3 _ _ _ _ _ h
   | succ l=>
    rw [gw] at h
    split at h
    ·cases h
    ·rename_i t' n' hr
     have a:=h1 _ _ _ _ _ _ hr
     have b:=h2 _ _ _ _ _ _ _ h a.2
     omega
  ·rw [EA] at h
   split at h
   ·simp only [Option.some.injEq,Prod.mk.injEq] at h
    omega
   ·rename_i name after ho
    have a:=Mq ho
    split at h
    ·split at h
     ·cases h
     ·rename_i r e hr
      have b:=h1 _ _ _ _ _ _ hr
      split at h
      ·simp only [Option.some.injEq,Prod.mk.injEq] at h
       omega
      ·have c:=h2 _ _ _ _ _ _ _ h b.2
       omega
    ·simp only [Option.some.injEq,Prod.mk.injEq] at h
     omega
  ·rw [rf] at h
   split at h
   ·cases h
   rename_i h0
   have h0:i<s.length:=by omega
   split at h
   ·split at h
    ·cases h
    ·rename_i t' n' hr
     have a:=h1 _ _ _ _ _ _ hr
     split at h
     ·rename_i hs
      have:=gd hs
      simp only [Option.some.injEq,Prod.mk.injEq] at h
      omega
     ·cases h
   ·split at h
    ·split at h
     ·cases h
     ·rename_i ts n' hr
      have a:=h4 _ _ _ _ _ _ _ _ hr
      split at h
      ·simp only [Option.some.injEq,Prod.mk.injEq] at h
       omega
      ·split at h
       ·cases h
       ·rename_i t' e hr2
        have b:=h1 _ _ _ _ _ _ hr2
        split at h
        ·rename_i hs
         have:=gd hs
         simp only [Option.some.injEq,Prod.mk.injEq] at h
         omega
        ·cases h
    ·split at h
     ·simp only [Option.some.injEq,Prod.mk.injEq] at h
      omega
     ·split at h
      ·exact MW h
      ·split at h
       ·cases h
       ·rename_i name n' hn
        have a:=te h0 hn
        split at h
        ·simp only [Option.some.injEq,Prod.mk.injEq] at h
         omega
        ·split at h
         ·cases h
         ·rename_i ts e hr
          have b:=h4 _ _ _ _ _ _ _ _ hr
          simp only [Option.some.injEq,Prod.mk.injEq] at h
          omega
  ·rw [ge] at h
   split at h
   ·cases h
   ·rename_i t' n' hr
    have a:=h1 _ _ _ _ _ _ hr
    split at h
    ·rename_i hs
     have hlt:n'<s.length:=hs.elim gd gd
     simp only [Option.some.injEq,Prod.mk.injEq] at h
     omega
    ·split at h
     ·have b:=h4 _ _ _ _ _ _ _ _ h
      omega
     ·cases h
abbrev Qd (t:T):Value->List Item->ae->Prop:=fun v I' S'=>I'=[]/\∃ cs,v=.agg cs.toArray/\RdT S' cs t
abbrev MD (t:T) (n:Nat):Value->List Item->ae->Prop:=fun v I' S'=>I'=[]/\∃ cs,v=.tuple #[.agg cs.toArray,.int .i64 (n:Int)]/\RdT S' cs t
abbrev Ot (ts:List T) (n:Nat):Value->List Item->ae->Prop:=fun v I' S'=>I'=[]/\∃ u,v=.tuple #[u,.int .i64 (n:Int)]/\RdSl S' 4 (RdT S') u ts
theorem mv (S:ae):RdSl S 4 (RdT S) (.slice none 0 0) []:=⟨none,0,rfl,Nat.le_refl _,Nat.zero_le _,.inl rfl⟩
theorem HW {S:ae} {b:Nat} {E:TypeId} {a c:T} {k1 n1 k2 n2:Int} {s1 s2:ByteArray} {v1 v2:Value} (hS:S b=some (.cells #[.int .i64 k1,.int .i64 n1,.string s1,v1,.int .i64 k2,.int .i64 n2,.string s2,v2] E))
  (h1:RdT S [.int .i64 k1,.int .i64 n1,.string s1,v1] a) (h2:RdT S [.int .i64 k2,.int .i64 n2,.string s2,v2] c):RdSl S 4 (RdT S) (.slice (some ⟨b,0,none⟩) 2 2) [a,c]:=by
 refine ⟨_,2,rfl,Nat.le_refl _,by simp [maxLen],.inr ⟨b,0,_,E,(0,0),rfl,hS,fun i hi=>?_⟩⟩
 match i,hi with
 | 0,_=>exact h1
 | 1,_=>exact h2
section
variable {w w0:World} {X:List Nat} {L:List Item} {S:ae} {K:Value->World->Prop}
attribute [local irreducible] Run CondV ar aI
theorem dM {P:Program} {T:TypeId} {cx cy:Bool} {x y:Int} {a b:Nat} (hx:x=a) (hy:y=b) (hr:a+b<=1000000000000000) (hk:K (.int .i64 ((a+b:Nat):Int)) w):Run P (cq .add T cx cy (.int .i64 x) (.int .i64 y)) w K:=by
 subst hx hy
 refine bm (by omega) ?_
 rw [<- Int.natCast_add]
 exact hk
theorem zE {P:Program} {T:TypeId} {cx cy:Bool} {x y:Int} {a b:Nat} (hx:x=a) (hy:y=b) (hle:b<=a) (hr:a<=1000000000000000) (hk:K (.int .i64 ((a - b:Nat):Int)) w):Run P (cq .sub T cx cy (.int .i64 x) (.int .i64 y)) w K:=by
 subst hx hy
 refine gy (by omega) ?_
 rw [<- Int.ofNat_sub hle]
 exact hk
theorem qg {s:ByteArray} {v:Value} (hv:∃ p n m,v=.slice p n m) (hk:K (.agg #[.int .i64 3,.int .i64 0,.string s,v]) w):Run Tryz.prog (bI ab [(0,.int .i64 3),(2,.string s),(3,v)]) w K:=by
 obtain ⟨p,n,m,rfl⟩:=hv
 refine Run.of (v:=.agg #[.int .i64 3,.int .i64 0,.string s,.slice p n m]) (w':=w) ?_ hk
 unfold bI
 rw [Sem.run_bind,run_build w ab _ #[.int .i64 3,.int .i64 0,.string s,.slice p n m] (by kernel_rfl),Result.andThen_ok]
 rfl
theorem ul (s:ByteArray) {ks:List T} {u:Value} (h:RdSl S 4 (RdT S) u ks) (hk:ks.length<=1000000):Tri Tryz.prog tI [.string s,u] [] S fun v I' S'=>S'=S/\∃ kv css,v=.agg #[.int .i64 3,.int .i64 0,.string s,kv]/\I'=[aP kv ab 4 css]/\Rows 4 (RdT S) css ks:=by
 intro w hI
 refine qD.2 ?_
 dsimp only[qD,aY]
 refine aA hI aU fun b4 w' hI=>?_
 refine dG hI bj fun v0 w' hI=>?_
 have hI:Inv w [] [.blk b4 (.cells #[.int .i64 0,.int .i64 0,.string ⟨#[]⟩,.slice none 0 0] ab),aP v0 ab 4 []] S w':=hI
 refine dI hI 1 (css:=[]) bj (by omega) rfl h (fun _ _=>RdT.length) (fun _ _=>RdT.one) (by simp; omega) (by omega) fun v' w' css2 hR hI=>?_
 have hI:Inv w [] [.blk b4 (.cells #[.int .i64 0,.int .i64 0,.string ⟨#[]⟩,.slice none 0 0] ab),aP v' ab 4 css2] S w':=hI
 obtain ⟨a,n,c,rfl⟩:=hI.rowSlice 1 rfl
 refine qg ⟨_,_,_,rfl⟩ ?_
 refine aj hI 0 rfl ac rfl rfl (by simp [Value.oneCell']) fun w' hI=>?_
 refine aS hI 0 ac rfl rfl ?_
 exact ⟨_,_,_,rfl,hI.sub (List.sublist_cons_self _ _),Ext.refl _ _ _,rfl,_,css2,rfl,rfl,hR⟩
theorem dO (s:ByteArray) (hs:s.size<=maxLen) {ks:List T} {u:Value} (h:RdSl S 4 (RdT S) u ks) (hk:ks.length<=1000000):Tri Tryz.prog tI [.string s,u] [] S (Qd (.mk 3 0 s ks)):=by
 intro w hI
 refine (ul s h hk w hI).mono ?_
 rintro e w' ⟨v,I',S',rfl,hI,hE,rfl,kv,css,rfl,rfl,hR⟩
 obtain ⟨S1,hE1,hrd,hI⟩:=Inv.lendExt (A:=[]) hI
 have hrs:=RowRd.rows (hR.monoR fun _ _ h=>RdT.mono hE1.1 h) hrd
 exact ⟨_,[],S1,rfl,hI,hE.trans hE1,rfl,[.int .i64 3,.int .i64 0,.string s,kv],rfl,RdT.iff.2 ⟨kv,rfl,by simp [inI,T.kind],by simp [inI,T.n],hs,hrs⟩⟩
theorem IB {ts:List T} {j:Nat} (h:j<ts.length) (t:T):g9 (ts.drop j) t=GD ts[j] (g9 (ts.drop (j+1)) t):=by
 rw [List.drop_eq_getElem_cons h,g9]
theorem qk {ts:List T} {t:T} {u:Value} {cs:List Value} (h:RdSl S 4 (RdT S) u ts) (ht:RdT S cs t) (hl:ts.length<=1000000):Tri Tryz.prog E3 [u,.agg cs.toArray] [] S (Qd (g9 ts t)):=by
 intro w hI
 obtain ⟨kv,rfl,g1,g2,g3,g4⟩:=RdT.iff.1 ht
 obtain ⟨ka,kn,kc,hkv⟩:∃ a n m,kv=.slice a n m:=by
  obtain ⟨a,m,e,_⟩:=g4
  exact ⟨_,_,_,e⟩
 refine sq.2 ?_
 dsimp only[sq,aY]
 refine be hI fun b3 w' hI=>?_
 refine aA hI aU fun b4 w' hI=>?_
 refine ag hI 0 ac rfl rfl ?_
 refine aA hI aU fun b5 w' hI=>?_
 refine aj hI 2 rfl ac rfl rfl (by simp [Value.oneCell',Value.cells,hkv]) fun w' hI=>?_
 refine aK h ah ?_
 refine gy (by omega) ?_
 obtain ⟨B3,hB3⟩:∃ B3,B3=Item.blk b3 (.cells #[.int .i64 t.kind,.int .i64 t.n,.string t.name,kv] ab):=⟨_,rfl⟩
 have hI:Inv w [] [B3,.blk b4 (.cells #[.int .i64 0,.int .i64 0,.string ⟨#[]⟩,.slice none 0 0] ab),.blk b5 (.cells #[.int .i64 t.kind,.int .i64 t.n,.string t.name,kv] ab)] S w':=by rw [hB3]; exact hI
 refine ⟨fun i w'=>∃ (j:Nat) (S1:ae) (ds:List Value),j<=ts.length/\i=.int .i64 ((j:Int) - 1)/\Ext w.heap.size [] S S1/\RdT S1 ds (g9 (ts.drop j) t)/\Inv w [] [B3,.blk b4 (.cells #[.int .i64 0,.int .i64 0,.string ⟨#[]⟩,.slice none 0 0] ab),.blk b5 (.cells ds.toArray ab)] S1 w',
  fun i _=>(intOf i+1).toNat,⟨ts.length,S,_,Nat.le_refl _,rfl,Ext.refl _ _ _,by rw [List.drop_length]; exact ht,hI⟩,?_⟩
 intro t6 _ _ t21 t20 t19 t18 t17 t16 t15 _ _ w'
 rintro ⟨j,S1,ds,hj,rfl,hE,hds,hI⟩
 by_cases hj0:j=0
 ·subst hj0
  refine l5 (by omega) ?_
  refine av (fun hb=>by cases hb) (fun _=>?_)
  obtain ⟨kv',rfl,_,_,_,a,m,rfl,_⟩:=RdT.iff.1 hds
  refine ag hI 2 ac rfl rfl ?_
  refine aj hI 1 rfl ac rfl rfl (by simp [Value.oneCell']) fun w' hI=>?_
  refine aS hI 1 ac rfl rfl ?_
  exact ⟨_,_,_,rfl,hI.nil,hE,rfl,_,rfl,hds⟩
 ·refine iO (by omega) ?_
  refine av (fun _=>?_) (fun hb=>by cases hb)
  obtain ⟨m,rfl⟩:∃ m,j=m+1:=⟨j - 1,by omega⟩
  have hm:m<ts.length:=by omega
  have ej:((m+1:Nat):Int) - 1=(m:Int):=by omega
  rw [ej]
  obtain ⟨b,o,cap,c,E,fz,rfl,hS,hR⟩:=(h.monoT hE.1).at_ hm
  obtain ⟨ka',hca,_,_,_,aa,am,hka',_⟩:=RdT.iff.1 hR
  subst hka'
  obtain ⟨kd,rfl,_,_,_,da,dm,rfl,_⟩:=RdT.iff.1 hds
  obtain ⟨o1,ho1⟩:∃ o1,o1=g9 (ts.drop (m+1)) t:=⟨_,rfl⟩
  rw [<- ho1] at hds hI
  obtain ⟨a1,ha1⟩:∃ a1,a1=ts[m]:=⟨_,rfl⟩
  rw [<- ha1] at hR hca
  skip
  refine ⟨fun D kX i6 lQ pJ mX Ca Dv w_=>Fx D 0 [Dv=.slice (some ⟨b,o,none⟩) ts.length cap,Ca=.int .i64 (m:Int),mX=.pointer (some ⟨b,o+m * 4,none⟩),pJ=.agg #[.int .i64 a1.kind,.int .i64 a1.n,.string a1.name,.slice aa a1.kids.length am],lQ=.agg #[.int .i64 o1.kind,.int .i64 o1.n,.string o1.name,.slice da o1.kids.length dm],True,True,True]/\∃ S2 c6,Ext w.heap.size [] S1 S2/\(D 5=true->RdSl S2 4 (RdT S2) i6 [a1,o1])/\(D 6=true->kX=.agg c6.toArray/\RdT S2 c6 (GD a1 o1))/\(D 7=true->D 6=true)/\(D 6=true->D 5=true)/\(D 5=true->D 4=true)/\Inv w [] [B3,.blk b4 (.cells #[.int .i64 0,.int .i64 0,.string ⟨#[]⟩,.slice none 0 0] ab),.blk b5 (.cells (match D 7 with|true=>c6.toArray|false=>#[.int .i64 o1.kind,.int .i64 o1.n,.string o1.name,.slice da o1.kids.length dm]) ab)] S2 w_,⟨Fx.nil _ _,⟨S1,[],Ext.refl _ _ _,aT,aT,aT,aT,aT,hI.draw⟩⟩,⟨?_,?_,?_,?_,?_,?_,?_,?_,trivial⟩,?_⟩
  all_goals (intro D bw; intros; rename_i kX i6 lQ pJ mX Ca Dv w_ hA_; have hF_:=hA_.1; obtain ⟨⟨bQ,bS,bU,bR,bY,bZ,bO,cG,_⟩,⟨S2,c6,hE2,e5,e6,k7,k6,k5,hI⟩⟩:=hA_)
  ·exact ⟨hF_.set 0 rfl,⟨S2,c6,hE2,e5,e6,k7,k6,k5,hI⟩⟩
  ·exact ⟨hF_.set 1 rfl,⟨S2,c6,hE2,e5,e6,k7,k6,k5,hI⟩⟩
  ·obtain rfl:=bQ ‹_›
   obtain rfl:=bS ‹_›
   refine ay ah hm ?_
   exact ⟨hF_.set 2 rfl,⟨S2,c6,hE2,e5,e6,k7,k6,k5,hI⟩⟩
  ·obtain rfl:=bU ‹_›
   refine ci (cs:=[.int .i64 a1.kind,.int .i64 a1.n,.string a1.name,.slice aa a1.kids.length am]) ac rfl (fun j v hj=>by rw [hI.cellS (hE2.1 _ _ hS)]; exact aD hca j v hj) ?_
   exact ⟨hF_.set 3 rfl,⟨S2,c6,hE2,e5,e6,k7,k6,k5,hI⟩⟩
  ·have f5:D 5=false:=Bool.eq_false_iff.2 fun h=>by rw [k5 h] at bw; cases bw
   have f6:D 6=false:=Bool.eq_false_iff.2 fun h=>by rw [k6 h] at f5; cases f5
   have f7:D 7=false:=Bool.eq_false_iff.2 fun h=>by rw [k7 h] at f6; cases f6
   have hI0:=hI
   rw [f7] at hI
   refine ag hI 2 ac rfl rfl ?_
   have hI:=hI0
   have k5:=fun (_:aB D 4 5=true)=>(rfl:aB D 4 4=true)
   exact ⟨hF_.set 4 rfl,⟨S2,c6,hE2,e5,e6,k7,k6,k5,hI⟩⟩
  ·obtain rfl:=bR ‹_›
   obtain rfl:=bY ‹_›
   have f6:D 6=false:=Bool.eq_false_iff.2 fun h=>by rw [k6 h] at bw; cases bw
   have f7:D 7=false:=Bool.eq_false_iff.2 fun h=>by rw [k7 h] at f6; cases f6
   rw [f7] at hI
   refine od (v:=fun b=>.slice (some ⟨b,0,none⟩) 2 2) (o:=.cells #[.int .i64 a1.kind,.int .i64 a1.n,.string a1.name,.slice aa a1.kids.length am,.int .i64 o1.kind,.int .i64 o1.n,.string o1.name,.slice da o1.kids.length dm] ab) hI (by kernel_rfl) fun b20 w_ hI=>?_
   obtain ⟨S2,hI,hE3,hS3⟩:=Inv.pub1 (A:=[_,_,_]) hI
   have hE2:=hE2.trans hE3
   have hR':RdT S2 [.int .i64 a1.kind,.int .i64 a1.n,.string a1.name,.slice aa a1.kids.length am] a1:=by
    have:=RdT.mono hE2.1 hR
    rwa [hca] at this
   have e5:=fun (_:aB D 5 5=true)=>HW hS3 hR' (RdT.mono hE2.1 hds)
   have e6:=fun (h:D 6=true)=>(absurd h (by rw [f6]; decide):kX=.agg c6.toArray/\RdT S2 c6 (GD a1 o1))
   have k6:=fun (_:aB D 5 6=true)=>(rfl:aB D 5 5=true)
   have k5:=fun (_:aB D 5 5=true)=>‹D 4=true›
   have hI:Inv w [] [B3,.blk b4 (.cells #[.int .i64 0,.int .i64 0,.string ⟨#[]⟩,.slice none 0 0] ab),.blk b5 (.cells (match D 7 with|true=>c6.toArray|false=>#[.int .i64 o1.kind,.int .i64 o1.n,.string o1.name,.slice da o1.kids.length dm]) ab)] S2 w_:=by
    rw [f7]
    exact hI
   exact ⟨hF_.set 5 (by first|assumption|trivial),⟨S2,c6,hE2,e5,e6,k7,k6,k5,hI⟩⟩
  ·have Kz:=bZ ‹_›
   have f7:D 7=false:=Bool.eq_false_iff.2 fun h=>by rw [k7 h] at bw; cases bw
   rw [f7] at hI
   refine Run.call0E dq dp hI (dO ⟨#[46]⟩ (by decide +kernel) (e5 ‹D 5=true›) (by simp)) fun v' I' S2 w_=>?_
   rintro ⟨rfl,c6,rfl,hc6⟩ hE3 hI
   have hE2:=hE2.trans hE3
   have e5:=fun (h:D 5=true)=>(e5 h).monoT hE3.1
   have e6:aB D 6 6=true->Value.agg c6.toArray=Value.agg c6.toArray/\RdT S2 c6 (GD a1 o1):=fun _=>⟨rfl,hc6⟩
   have k7:=fun (_:aB D 6 7=true)=>(rfl:aB D 6 6=true)
   have k6:=fun (_:aB D 6 6=true)=>‹D 5=true›
   have hI:Inv w [] [B3,.blk b4 (.cells #[.int .i64 0,.int .i64 0,.string ⟨#[]⟩,.slice none 0 0] ab),.blk b5 (.cells (match D 7 with|true=>c6.toArray|false=>#[.int .i64 o1.kind,.int .i64 o1.n,.string o1.name,.slice da o1.kids.length dm]) ab)] S2 w_:=by
    rw [f7]
    exact hI
   exact ⟨hF_.set 6 (by first|assumption|trivial),⟨S2,c6,hE2,e5,e6,k7,k6,k5,hI⟩⟩
  ·have JZ:=bO ‹_›
   obtain ⟨q6,hc6⟩:=e6 ‹D 6=true›
   subst q6
   rw [bw] at hI
   have hone:=hc6.one
   have hlen:=hc6.length
   refine aj hI 2 rfl ac (by simpa using hlen) rfl (by simpa using hone) fun w_ hI=>?_
   have k7:=fun (_:aB D 7 7=true)=>‹D 6=true›
   exact ⟨hF_.set 7 trivial,⟨S2,c6,hE2,e5,e6,k7,k6,k5,hI⟩⟩
  obtain ⟨rfl,rfl,rfl,rfl,rfl,Kz,JZ,_,_⟩:=hF_.all
  have QC:D 6=true:=by assumption
  have Cs:D 7=true:=by assumption
  clear hF_ bQ bS bU bR bY bZ bO cG
  rw [Cs] at hI
  obtain ⟨_,hc6⟩:=e6 QC
  refine gy (by omega) ?_
  refine ⟨⟨m,S2,c6,by omega,rfl,hE.trans hE2,?_,hI⟩,by simp [intOf]⟩
  rw [IB hm,<- ha1,<- ho1]
  exact hc6
end
def nN (f:Nat):Prop:=∀ (s:Bs) (i d l:Nat) (t:T) (n:Nat) (S:ae),gw f s i d l=some (t,n)->s.length<=100000->i<=s.length->d<=100->l<=3->
 Tri Tryz.prog Hu [.string (st s),.int .i64 (i:Int),.int .i64 (d:Int),.int .i64 (l:Int)] [] S (MD t n)
def Dw (f:Nat):Prop:=∀ (s:Bs) (i d:Nat) (t:T) (n:Nat) (S:ae),rf f s i d=some (t,n)->s.length<=100000->i<=s.length->d<=100->
 Tri Tryz.prog Fh [.string (st s),.int .i64 (i:Int),.int .i64 (d:Int)] [] S (MD t n)
def rV (f:Nat):Prop:=∀ (s:Bs) (i d e o:Nat) (ts:List T) (n:Nat) (S:ae),ge f s i d e o []=some (ts,n)->s.length<=100000->i<=s.length->d<=100->
 Tri Tryz.prog Fy [.string (st s),.int .i64 (i:Int),.int .i64 (d:Int),.int .u8 (e:Int),.int .u8 (o:Int)] [] S (Ot ts n)
theorem Cf:∀ (f:Nat) (s:Bs) (i d e o:Nat) (acc ts:List T) (n:Nat),ge f s i d e o acc=some (ts,n)->ts.length+i<=acc.length+n
 | 0,s,i,d,e,o,acc,ts,n,h=>by simp [ge] at h
 | f+1,s,i,d,e,o,acc,ts,n,h=>by
  rw [ge] at h
  split at h
  ·cases h
  ·rename_i t' n' hr
   have a:=(fI f).1 _ _ _ _ _ _ hr
   split at h
   ·simp only [Option.some.injEq,Prod.mk.injEq] at h
    obtain ⟨rfl,rfl⟩:=h
    rw [List.length_append]
    simp only [List.length_cons,List.length_nil]
    omega
   ·split at h
    ·have b:=Cf f _ _ _ _ _ _ _ _ h
     rw [List.length_append] at b
     simp only [List.length_cons,List.length_nil] at b
     omega
    ·cases h
section
attribute [local irreducible] Run CondV ar aI
theorem LU {f:Nat} (ih:∀ g,g<f->nN g):rV f:=by
 intro s i d e o ts n S h hs hi hd w hI
 refine tf.2 ?_
 dsimp only[tf,Ou]
 refine dG hI bj fun v0 w' hI=>?_
 refine ⟨fun a b w'=>∃ (f' i':Nat) (acc:List T) (S1:ae) (css:List (List Value)),f'<=f/\a=.int .i64 (i':Int)/\i<=i'/\i'<=s.length/\acc.length+i<=i'/\ge f' s i' d e o acc=some (ts,n)/\Ext w.heap.size [] S S1/\Rows 4 (RdT S1) css acc/\Inv w [] [aP b ab 4 css] S1 w',
  fun a _ _=>s.length+1 - (intOf a).toNat,⟨f,i,[],S,[],Nat.le_refl _,rfl,Nat.le_refl _,hi,by simp,h,Ext.refl _ _ _,Rows.nil _ _,hI⟩,?_⟩
 intro t1 _ _ _ _ _ _ _ _ _ _ _ _ _ _ _ _ _ _ _ _ t12 _ _ _ _ _ _ _ _ _ _ _ _ _ _ _ _ _ _ w'
 rintro ⟨f',i',acc,S1,css,hf',rfl,hi1,hi2,hacc,hT,hE,hR,hI⟩
 have hcl:=hR.hc
 cases f' with
 | zero=>simp [ge] at hT
 | succ g=>
 rw [ge] at hT
 split at hT
 ·cases hT
 rename_i t n' hr
 have hle:=(fI g).1 _ _ _ _ _ _ hr
 refine Run.call0E eA eE hI (ih g (by omega) s i' d 3 t n' S1 hr hs hi2 hd (by omega)) fun v I' S2 w'=>?_
 rintro ⟨rfl,cs,rfl,hcs⟩ hE2 hI
 have hR2:=hR.monoR fun _ _ h=>RdT.mono hE2.1 h
 obtain ⟨kv,rfl,_,_,_,a,m,rfl,_⟩:=RdT.iff.1 hcs
 refine ai (v:=.agg _) rfl ?_
 refine ai (v:=.int .i64 (n':Int)) rfl ?_
 refine aA hI aU fun b13 w' hI=>?_
 refine aj hI 1 rfl ac rfl rfl (by simp [Value.oneCell']) fun w' hI=>?_
 refine dU (by omega) ?_
 refine av (fun hb=>by cases hb) (fun _=>?_)
 refine ag hI 1 ac rfl rfl ?_
 refine fU (css:=css) hI 0 _ bj (by omega) (by omega) rfl hcs.length hcs.one (by omega) (by omega) fun v' w' hI=>?_
 have hI:Inv w [] [aP v' ab 4 (css++[[.int .i64 t.kind,.int .i64 t.n,.string t.name,.slice a t.kids.length m]])] S2 w':=hI.pick [true,false]
 have hR3:=hR2.snoc hcs hcs.length
 refine ⟨fun b w'=>b=.bool (sgn s n' e || sgn s n' o)/\Inv w [] [aP v' ab 4 (css++[[.int .i64 t.kind,.int .i64 t.n,.string t.name,.slice a t.kids.length m]])] S2 w',?_,?_⟩
 ·refine Run.callPure ct cw hI (cg s n' e S2) fun w' hI=>?_
  cases he:sgn s n' e
  ·refine rpG ?_
   refine Run.callPure ct cw hI (cg s n' o S2) fun w' hI=>?_
   refine rpG ?_
   exact ⟨by simp,hI⟩
  ·refine rpG ?_
   exact ⟨by simp,hI⟩
 intro t39 _ _ _ _ _ _ _ _ _ w'
 rintro ⟨rfl,hI⟩
 refine av (fun hb=>?_) (fun hb=>?_)
 ·rw [Bool.or_eq_true] at hb
  rw [if_pos hb] at hT
  simp only [Option.some.injEq,Prod.mk.injEq] at hT
  obtain ⟨rfl,rfl⟩:=hT
  obtain ⟨S3,hE3,hrd,hI⟩:=Inv.lendExt (A:=[]) hI
  have hrs:=RowRd.rows (hR3.monoR fun _ _ h=>RdT.mono hE3.1 h) hrd
  exact ⟨_,[],S3,rfl,hI,(hE.trans hE2).trans hE3,rfl,_,rfl,hrs⟩
 ·have hb':¬ (sgn s n' e=true ∨ sgn s n' o=true):=fun h=>by rw [<- Bool.or_eq_true,hb] at h; cases h
  rw [if_neg hb'] at hT
  split at hT
  ·rename_i h44
   refine Run.callPure ct cw hI (cg s n' 44 S2) fun w' hI=>?_
   refine bW ?_
   rw [h44]
   refine av (fun hb=>by cases hb) (fun _=>?_)
   have:=gd h44
   refine dM (a:=n') (b:=1) rfl rfl (by omega) ?_
   refine ⟨⟨g,n'+1,acc++[t],S2,css++[[.int .i64 t.kind,.int .i64 t.n,.string t.name,.slice a t.kids.length m]],by omega,rfl,by omega,by omega,?_,hT,hE.trans hE2,hR3,hI⟩,?_⟩
   ·rw [List.length_append]; simp only [List.length_cons,List.length_nil]; omega
   ·simp only [intOf,Int.toNat_natCast]; omega
  ·cases hT
theorem EZ {g:Nat} (hT:rV g) (hR:nN g) {s:Bs} {i d:Nat} {ts:List T} {n:Nat} {t:T} {e:Nat} (h1:ge g s i d 93 124 []=some (ts,n))
  (h2:(sgn s n 93=true/\t=g9 ts OV/\e=n+1) ∨ (sgn s n 93=false/\∃ u m,gw g s (n+1) d 3=some (u,m)/\sgn s m 93=true/\t=g9 ts u/\e=m+1))
  (hs:s.length<=100000) (hi:i<=s.length) (hd:d<=100) (S:ae):Tri Tryz.prog Ei [.string (st s),.int .i64 (i:Int),.int .i64 (d:Int)] [] S (MD t e):=by
 intro w hI
 have hle:=(fI g).2.2.2 _ _ _ _ _ _ _ _ h1
 have hln:=Cf _ _ _ _ _ _ _ _ _ h1
 simp only [List.length_nil] at hln
 refine rC.2 ?_
 dsimp only[rC,cM]
 refine aA hI aU fun b6 w' hI=>?_
 refine Run.call0E tZ sO hI (hT s i d 93 124 ts n S h1 hs hi hd) fun v I' S1 w'=>?_
 rintro ⟨rfl,u,rfl,hu⟩ hE1 hI
 have hI:Inv w [] [.blk b6 (.cells #[.int .i64 0,.int .i64 0,.string ⟨#[]⟩,.slice none 0 0] ab)] S1 w':=hI
 refine ai (v:=u) rfl ?_
 refine ai (v:=.int .i64 (n:Int)) rfl ?_
 refine dU (by omega) ?_
 refine av (fun hb=>by cases hb) (fun _=>?_)
 refine Run.callPure ct cw hI (cg s n 93 S1) fun w' hI=>?_
 rcases h2 with ⟨h3,rfl,rfl⟩|⟨h3,x,m,h4,h5,rfl,rfl⟩
 ·rw [h3]
  refine av (fun _=>?_) (fun hb=>by cases hb)
  refine Run.call0E dq dp hI (dO ⟨#[91,93]⟩ (by decide +kernel) (mv S1) (by simp)) fun v I' S2 w'=>?_
  rintro ⟨rfl,cs,rfl,hcs⟩ hE2 hI
  refine Run.call0E tj sN hI (qk (hu.monoT hE2.1) hcs (by omega)) fun v I' S3 w'=>?_
  rintro ⟨rfl,ds,rfl,hds⟩ hE3 hI
  refine dM (a:=n) (b:=1) rfl rfl (by omega) ?_
  obtain ⟨kv,rfl,_,_,_,a,k,rfl,_⟩:=RdT.iff.1 hds
  refine aj hI 0 rfl ac rfl rfl (by simp [Value.oneCell']) fun w' hI=>?_
  refine aS hI 0 ac rfl rfl ?_
  exact ⟨_,[],S3,rfl,hI.nil,(hE1.trans hE2).trans hE3,rfl,_,rfl,hds⟩
 ·rw [h3]
  refine av (fun hb=>by cases hb) (fun _=>?_)
  refine dM (a:=n) (b:=1) rfl rfl (by omega) ?_
  have hle2:=(fI g).1 _ _ _ _ _ _ h4
  refine Run.call0E eA eE hI (hR s (n+1) d 3 x m S1 h4 hs (by omega) hd (by omega)) fun v I' S2 w'=>?_
  rintro ⟨rfl,cs,rfl,hcs⟩ hE2 hI
  obtain ⟨kv,rfl,_,_,_,a,k,rfl,_⟩:=RdT.iff.1 hcs
  refine ai (v:=.agg _) rfl ?_
  refine ai (v:=.int .i64 (m:Int)) rfl ?_
  refine aA hI aU fun b10 w' hI=>?_
  refine aj hI 1 rfl ac rfl rfl (by simp [Value.oneCell']) fun w' hI=>?_
  refine dU (by omega) ?_
  refine av (fun hb=>by cases hb) (fun _=>?_)
  refine Run.callPure ct cw hI (cg s m 93 S2) fun w' hI=>?_
  refine bW ?_
  rw [h5]
  refine av (fun hb=>by cases hb) (fun _=>?_)
  refine ag hI 1 ac rfl rfl ?_
  refine Run.call0E tj sN hI (qk (hu.monoT hE2.1) hcs (by omega)) fun v I' S3 w'=>?_
  rintro ⟨rfl,ds,rfl,hds⟩ hE3 hI
  refine dM (a:=m) (b:=1) rfl rfl (by omega) ?_
  obtain ⟨kv,rfl,_,_,_,a,k,rfl,_⟩:=RdT.iff.1 hds
  refine aj hI 0 rfl ac rfl rfl (by simp [Value.oneCell']) fun w' hI=>?_
  refine aS hI 0 ac rfl rfl ?_
  exact ⟨_,[],S3,rfl,hI.nil,(hE1.trans hE2).trans hE3,rfl,_,rfl,hds⟩
theorem CG {n:Bs} (h:n.length<=6):(st n).size<=maxLen:=by rw [gj]; simp only [maxLen]; omega
theorem MI {f:Nat} (ihR:∀ g,g<f->nN g) (ihT:∀ g,g<f->rV g):Dw f:=by
 intro s i d t n S h hs hi hd w hI
 cases f with
 | zero=>simp [rf] at h
 | succ g=>
 have hR:=ihR g (by omega)
 have hT:=ihT g (by omega)
 have hle:=(fI (g+1)).2.2.1 _ _ _ _ _ h
 rw [rf] at h
 split at h
 ·cases h
 rename_i h0
 have hd0:1<=d:=by omega
 have hlt:i<s.length:=by omega
 refine rO.2 ?_
 dsimp only[rO,cM]
 refine aA hI aU fun b6 w' hI=>?_
 have hI:Inv w [] [.blk b6 (.cells #[.int .i64 0,.int .i64 0,.string ⟨#[]⟩,.slice none 0 0] ab)] S w':=hI
 refine ⟨fun b w'=>b=.bool false/\Inv w [] [.blk b6 (.cells #[.int .i64 0,.int .i64 0,.string ⟨#[]⟩,.slice none 0 0] ab)] S w',?_,?_⟩
 ·refine dU (by omega) ?_
  refine rpG ?_
  refine eH aF ?_
  refine l5 (by omega) ?_
  refine rpG ?_
  exact ⟨rfl,hI⟩
 intro t23 _ _ _ _ _ _ _ w'
 rintro ⟨rfl,hI⟩
 refine av (fun hb=>by cases hb) (fun _=>?_)
 refine dy aF hlt ?_
 split at h
 ·rename_i h40
  rw [jE hlt,decide_eq_true_eq] at h40
  refine dx (by omega) ?_
  refine av (fun _=>?_) (fun hb=>by cases hb)
  split at h
  ·cases h
  rename_i u m hr
  split at h
  ·rename_i h41
   simp only [Option.some.injEq,Prod.mk.injEq] at h
   obtain ⟨rfl,rfl⟩:=h
   have hle2:=(fI g).1 _ _ _ _ _ _ hr
   refine dM (a:=i) (b:=1) rfl rfl (by omega) ?_
   refine Run.call0E eA eE hI (hR s (i+1) d 3 u m S hr hs (by omega) hd (by omega)) fun v I' S2 w'=>?_
   rintro ⟨rfl,cs,rfl,hcs⟩ hE2 hI
   obtain ⟨kv,rfl,_,_,_,a,k,rfl,_⟩:=RdT.iff.1 hcs
   refine ai (v:=.agg _) rfl ?_
   refine ai (v:=.int .i64 (m:Int)) rfl ?_
   refine aA hI aU fun b8 w' hI=>?_
   refine aj hI 1 rfl ac rfl rfl (by simp [Value.oneCell']) fun w' hI=>?_
   refine dU (by omega) ?_
   refine av (fun hb=>by cases hb) (fun _=>?_)
   refine Run.callPure ct cw hI (cg s m 41 S2) fun w' hI=>?_
   refine bW ?_
   rw [h41]
   refine av (fun hb=>by cases hb) (fun _=>?_)
   refine ag hI 1 ac rfl rfl ?_
   refine dM (a:=m) (b:=1) rfl rfl (by omega) ?_
   refine aj hI 0 rfl ac rfl rfl (by simp [Value.oneCell']) fun w' hI=>?_
   refine aS hI 0 ac rfl rfl ?_
   exact ⟨_,[],S2,rfl,hI.nil,hE2,rfl,_,rfl,hcs⟩
  ·cases h
 rename_i h40
 rw [jE hlt,decide_eq_true_eq] at h40
 refine cQ (by omega) ?_
 refine av (fun hb=>by cases hb) (fun _=>?_)
 refine ⟨fun b w'=>b=.bool (sgn s i 91 && !sgn s (i+1) 93)/\Inv w [] [.blk b6 (.cells #[.int .i64 0,.int .i64 0,.string ⟨#[]⟩,.slice none 0 0] ab)] S w',?_,?_⟩
 ·refine dy aF hlt ?_
  by_cases h91:s[i].toNat=91
  ·refine dx (by omega) ?_
   refine rpG ?_
   refine dM (a:=i) (b:=1) rfl rfl (by omega) ?_
   refine Run.callPure ct cw hI (cg s (i+1) 93 S) fun w' hI=>?_
   refine bW ?_
   refine rpG ?_
   exact ⟨by rw [jE hlt,decide_eq_true h91,Bool.true_and],hI⟩
  ·refine cQ (by omega) ?_
   refine rpG ?_
   exact ⟨by rw [jE hlt,decide_eq_false h91,Bool.false_and],hI⟩
 intro t65 _ _ _ _ _ _ _ _ _ _ w'
 rintro ⟨rfl,hI⟩
 split at h
 ·rename_i h91
  rw [h91.1,h91.2]
  refine av (fun _=>?_) (fun hb=>by cases hb)
  split at h
  ·cases h
  rename_i ts m hts
  have h2:(sgn s m 93=true/\t=g9 ts OV/\n=m+1) ∨ (sgn s m 93=false/\∃ u k,gw g s (m+1) (d - 1) 3=some (u,k)/\sgn s k 93=true/\t=g9 ts u/\n=k+1):=by
   split at h
   ·rename_i h3
    simp only [Option.some.injEq,Prod.mk.injEq] at h
    exact .inl ⟨h3,h.1.symm,h.2.symm⟩
   ·rename_i h3
    split at h
    ·cases h
    rename_i u k hr
    split at h
    ·rename_i h4
     simp only [Option.some.injEq,Prod.mk.injEq] at h
     exact .inr ⟨Bool.eq_false_iff.2 h3,u,k,hr,h4,h.1.symm,h.2.symm⟩
    ·cases h
  refine dM (a:=i) (b:=1) rfl rfl (by omega) ?_
  refine zE (a:=d) (b:=1) rfl rfl hd0 (by omega) ?_
  refine Run.call0E DB CF hI (EZ hT hR hts h2 hs (by omega) (by omega) S) fun v I' S2 w'=>?_
  rintro ⟨rfl,cs,rfl,hcs⟩ hE2 hI
  obtain ⟨kv,rfl,_,_,_,a,k,rfl,_⟩:=RdT.iff.1 hcs
  refine ai (v:=.agg _) rfl ?_
  refine ai (v:=.int .i64 (n:Int)) rfl ?_
  refine aj hI 0 rfl ac rfl rfl (by simp [Value.oneCell']) fun w' hI=>?_
  refine aS hI 0 ac rfl rfl ?_
  exact ⟨_,[],S2,rfl,hI.nil,hE2,rfl,_,rfl,hcs⟩
 rename_i h91
 have e91:(sgn s i 91 && !sgn s (i+1) 93)=false:=by
  cases h5:sgn s i 91
  ·rfl
  ·cases h6:sgn s (i+1) 93
   ·exact absurd ⟨h5,h6⟩ h91
   ·rfl
 rw [e91]
 refine av (fun hb=>by cases hb) (fun _=>?_)
 refine ⟨fun b w'=>b=.bool (upp s i)/\Inv w [] [.blk b6 (.cells #[.int .i64 0,.int .i64 0,.string ⟨#[]⟩,.slice none 0 0] ab)] S w',?_,?_⟩
 ·refine dy aF hlt ?_
  by_cases h65:65<=s[i].toNat
  ·refine iO (by omega) ?_
   refine rpG ?_
   refine dy aF hlt ?_
   refine fi ?_
   refine rpG ?_
   refine ⟨?_,hI⟩
   rw [upp,me hlt,decide_eq_true h65,Bool.true_and]
   congr 1
   rw [decide_eq_decide]
   omega
  ·refine l5 (by omega) ?_
   refine rpG ?_
   exact ⟨by rw [upp,me hlt,decide_eq_false h65,Bool.false_and],hI⟩
 intro t83 _ _ _ _ _ _ _ _ _ w'
 rintro ⟨rfl,hI⟩
 split at h
 ·rename_i hup
  simp only [Option.some.injEq,Prod.mk.injEq] at h
  obtain ⟨rfl,rfl⟩:=h
  rw [hup]
  rw [upp,me hlt,Bool.and_eq_true,decide_eq_true_eq,decide_eq_true_eq] at hup
  refine av (fun _=>?_) (fun hb=>by cases hb)
  refine dy aF hlt ?_
  refine Ml (c:=(s[i].toNat:Int) - 65) (IntWalk.u8_in _ (by omega)) ?_
  refine l7 eq ma (IntWalk.i64_in _ (by omega)) ?_
  refine Run.callPure y7 zu hI (qB _ S) fun w' hI=>?_
  refine dM (a:=i) (b:=1) rfl rfl (by omega) ?_
  refine aj hI 0 rfl ac rfl rfl (by simp [Value.oneCell']) fun w' hI=>?_
  refine aS hI 0 ac rfl rfl ?_
  have eg:((s.getD i 0).toNat:Int) - 65=(s[i].toNat:Int) - 65:=by rw [List.getD_eq_getElem?_getD,List.getElem?_eq_getElem hlt]; rfl
  rw [eg]
  exact ⟨_,[],S,rfl,hI.nil,Ext.refl _ _ _,rfl,_,rfl,RdT.nil (by simp [inI]) (by unfold inI; omega) (by decide +kernel) (Nat.zero_le _)⟩
 rename_i hup
 rw [Bool.eq_false_iff.2 hup]
 refine av (fun hb=>by cases hb) (fun _=>?_)
 refine ⟨fun b w'=>b=.bool (dig s i || (sgn s i 45 && dig s (i+1)))/\Inv w [] [.blk b6 (.cells #[.int .i64 0,.int .i64 0,.string ⟨#[]⟩,.slice none 0 0] ab)] S w',?_,?_⟩
 ·refine Run.callPure jg jh hI (fL s i S) fun w' hI=>?_
  cases hdi:dig s i
  ·refine rpG ?_
   refine dy aF hlt ?_
   by_cases h45:s[i].toNat=45
   ·refine dx (by omega) ?_
    refine rpG ?_
    refine dM (a:=i) (b:=1) rfl rfl (by omega) ?_
    refine Run.callPure jg jh hI (fL s (i+1) S) fun w' hI=>?_
    refine rpG ?_
    exact ⟨by rw [jE hlt,decide_eq_true h45,Bool.true_and,Bool.false_or],hI⟩
   ·refine cQ (by omega) ?_
    refine rpG ?_
    exact ⟨by rw [jE hlt,decide_eq_false h45,Bool.false_and,Bool.false_or],hI⟩
  ·refine rpG ?_
   exact ⟨by rw [Bool.true_or],hI⟩
 intro t106 _ _ _ _ _ _ _ _ _ _ _ _ _ _ w'
 rintro ⟨rfl,hI⟩
 split at h
 ·rename_i hdg
  have:(dig s i || (sgn s i 45 && dig s (i+1)))=true:=by rw [Bool.or_eq_true,Bool.and_eq_true]; exact hdg
  rw [this]
  refine av (fun _=>?_) (fun hb=>by cases hb)
  obtain ⟨k,hk,rfl,_,_,hnum⟩:=yf h (by omega) S
  refine Run.callPure AM AZ hI hnum fun w' hI=>?_
  refine ai (v:=zl 2 k) rfl ?_
  refine ai (v:=.int .i64 (n:Int)) rfl ?_
  refine aA hI aU fun b10 w' hI=>?_
  refine aj hI 1 rfl ac rfl rfl (by simp [Value.oneCell']) fun w' hI=>?_
  refine dU (by omega) ?_
  refine av (fun hb=>by cases hb) (fun _=>?_)
  refine ag hI 1 ac rfl rfl ?_
  refine aj hI 0 rfl ac rfl rfl (by simp [Value.oneCell']) fun w' hI=>?_
  refine aS hI 0 ac rfl rfl ?_
  exact ⟨_,[],S,rfl,hI.nil,Ext.refl _ _ _,rfl,_,rfl,RdT.nil (by simp [inI]) hk (by decide +kernel) (Nat.zero_le _)⟩
 rename_i hdg
 have:(dig s i || (sgn s i 45 && dig s (i+1)))=false:=by
  rw [Bool.eq_false_iff,ne_eq,Bool.or_eq_true,Bool.and_eq_true]; exact hdg
 rw [this]
 refine av (fun hb=>by cases hb) (fun _=>?_)
 refine Run.callPure wa vF hI (sK hlt hs S) fun w' hI=>?_
 cases hnm:sJ s i with
 | none=>rw [hnm] at h; cases h
 | some q=>
 obtain ⟨name,m⟩:=q
 rw [hnm] at h
 simp only [] at h
 simp only [JU]
 have hnl:=te hlt hnm
 refine ai (v:=.string (st name)) rfl ?_
 refine ai (v:=.int .i64 (m:Int)) rfl ?_
 refine dU (by omega) ?_
 refine av (fun hb=>by cases hb) (fun _=>?_)
 refine Run.callPure ct cw hI (cg s m 40 S) fun w' hI=>?_
 refine bW ?_
 split at h
 ·rename_i h40'
  simp only [Option.some.injEq,Prod.mk.injEq] at h
  obtain ⟨rfl,rfl⟩:=h
  rw [h40']
  refine av (fun _=>?_) (fun hb=>by cases hb)
  refine Run.call0E dq dp hI (dO (st name) (CG hnl.2.2.1) (mv S) (by simp)) fun v I' S2 w'=>?_
  rintro ⟨rfl,cs,rfl,hcs⟩ hE2 hI
  obtain ⟨kv,rfl,_,_,_,a,k,rfl,_⟩:=RdT.iff.1 hcs
  refine aj hI 0 rfl ac rfl rfl (by simp [Value.oneCell']) fun w' hI=>?_
  refine aS hI 0 ac rfl rfl ?_
  exact ⟨_,[],S2,rfl,hI.nil,hE2,rfl,_,rfl,hcs⟩
 ·rename_i h40'
  rw [Bool.not_eq_false] at h40'
  rw [h40']
  refine av (fun hb=>by cases hb) (fun _=>?_)
  split at h
  ·cases h
  rename_i ts k hts
  simp only [Option.some.injEq,Prod.mk.injEq] at h
  obtain ⟨rfl,rfl⟩:=h
  have hm:=gd h40'
  have hle2:=(fI g).2.2.2 _ _ _ _ _ _ _ _ hts
  refine dM (a:=m) (b:=1) rfl rfl (by omega) ?_
  refine zE (a:=d) (b:=1) rfl rfl hd0 (by omega) ?_
  refine Run.call0E tZ sO hI (hT s (m+1) (d - 1) 41 41 ts k S hts hs (by omega) (by omega)) fun v I' S2 w'=>?_
  rintro ⟨rfl,u,rfl,hu⟩ hE2 hI
  refine ai (v:=u) rfl ?_
  refine ai (v:=.int .i64 (k:Int)) rfl ?_
  refine dU (by omega) ?_
  refine av (fun hb=>by cases hb) (fun _=>?_)
  obtain ⟨a,c,rfl,_⟩:=id hu
  refine qg ⟨_,_,_,rfl⟩ ?_
  refine dM (a:=k) (b:=1) rfl rfl (by omega) ?_
  refine aj hI 0 rfl ac rfl rfl (by simp [Value.oneCell']) fun w' hI=>?_
  refine aS hI 0 ac rfl rfl ?_
  exact ⟨_,[],S2,rfl,hI.nil,hE2,rfl,_,rfl,RdT.iff.2 ⟨_,rfl,by simp [inI,T.kind,Gt],by simp [inI,T.n,Gt],CG hnl.2.2.1,hu⟩⟩
theorem Ny {f:Nat} (ihR:∀ g,g<f->nN g) (ihP:∀ g,g<f->Dw g):nN f:=by
 intro s i d l t n S h hs hi hd hl w hI
 cases f with
 | zero=>simp [gw] at h
 | succ f=>
 refine wc.2 ?_
 dsimp only[wc,JL]
 refine aA hI aU fun b8 w' hI=>?_
 have hI:Inv w [] [.blk b8 (.cells #[.int .i64 0,.int .i64 0,.string ⟨#[]⟩,.slice none 0 0] ab)] S w':=hI
 cases l with
 | zero=>
  rw [gw] at h
  refine dx rfl ?_
  refine av (fun _=>?_) (fun hb=>by cases hb)
  refine Run.call0E CL Dl hI (ihP f (by omega) s i d t n S h hs hi hd) fun v I' S2 w'=>?_
  rintro ⟨rfl,cs,rfl,hcs⟩ hE2 hI
  obtain ⟨kv,rfl,_,_,_,a,k,rfl,_⟩:=RdT.iff.1 hcs
  refine ai (v:=.agg _) rfl ?_
  refine ai (v:=.int .i64 (n:Int)) rfl ?_
  refine aj hI 0 rfl ac rfl rfl (by simp [Value.oneCell']) fun w' hI=>?_
  refine aS hI 0 ac rfl rfl ?_
  exact ⟨_,[],S2,rfl,hI.nil,hE2,rfl,_,rfl,hcs⟩
 | succ l=>
  rw [gw] at h
  split at h
  ·cases h
  rename_i t0 n0 hr
  have hle:=(fI f).1 _ _ _ _ _ _ hr
  refine cQ (by omega) ?_
  refine av (fun hb=>by cases hb) (fun _=>?_)
  refine zE (a:=l+1) (b:=1) rfl rfl (by omega) (by omega) ?_
  rw [Nat.add_sub_cancel]
  refine Run.call0E eA eE hI (ihR f (by omega) s i d l t0 n0 S hr hs hi hd (by omega)) fun v I' S1 w'=>?_
  rintro ⟨rfl,cs,rfl,hcs⟩ hE1 hI
  obtain ⟨kv,rfl,_,_,_,a,k,rfl,_⟩:=RdT.iff.1 hcs
  refine ai (v:=.agg _) rfl ?_
  refine ai (v:=.int .i64 (n0:Int)) rfl ?_
  refine aA hI aU fun b10 w' hI=>?_
  refine aj hI 1 rfl ac rfl rfl (by simp [Value.oneCell']) fun w' hI=>?_
  refine ⟨fun a w'=>∃ (f' n':Nat) (t':T) (ds:List Value) (S1:ae),f'<=f/\a=.int .i64 (n':Int)/\n'<=s.length/\EA f' s n' d l t'=some (t,n)/\Ext w.heap.size [] S S1/\RdT S1 ds t'/\Inv w [] [.blk b8 (.cells #[.int .i64 0,.int .i64 0,.string ⟨#[]⟩,.slice none 0 0] ab),.blk b10 (.cells ds.toArray ab)] S1 w',
   fun a _=>s.length+1 - (intOf a).toNat,⟨f,n0,t0,_,S1,Nat.le_refl _,rfl,hle.2,h,hE1,hcs,hI⟩,?_⟩
  clear h hE1 hcs hI hr hle
  intro _ _ _ _ t11 _ _ _ _ _ _ _ _ _ _ _ _ _ _ _ _ _ _ _ _ _ _ _ _ _ _ _ _ _ _ _ _ _ _ _ _ _ _ _ _ _ _ w'
  rintro ⟨f',n',t',ds,S1,hf',rfl,hn',ho,hE,hds,hI⟩
  obtain ⟨kd,rfl,_,_,hts',da,dm,rfl,_⟩:=RdT.iff.1 hds
  cases f' with
  | zero=>simp [EA] at ho
  | succ g=>
  rw [EA] at ho
  refine iO (by omega) ?_
  refine av (fun _=>?_) (fun hb=>by cases hb)
  refine Run.callPure JX JV hI (Hk hs hn' S1) fun w' hI=>?_
  cases hop:opF s n' with
  | none=>
   rw [hop] at ho
   simp only [Option.some.injEq,Prod.mk.injEq] at ho
   obtain ⟨rfl,rfl⟩:=ho
   simp only [opV]
   refine ai (v:=.string ⟨#[]⟩) rfl ?_
   refine ai (v:=.int .i64 (n':Int)) rfl ?_
   refine ⟨fun b w'=>b=.bool true/\Inv w [] [.blk b8 (.cells #[.int .i64 0,.int .i64 0,.string ⟨#[]⟩,.slice none 0 0] ab),.blk b10 (.cells #[.int .i64 t'.kind,.int .i64 t'.n,.string t'.name,.slice da t'.kids.length dm] ab)] S1 w',?_,?_⟩
   ·refine bf ?_
    rw [decide_eq_true rfl]
    refine rpG ?_
    exact ⟨rfl,hI⟩
   intro t48 _ _ _ _ _ _ _ w'
   rintro ⟨rfl,hI⟩
   refine av (fun _=>?_) (fun hb=>by cases hb)
   refine ag hI 1 ac rfl rfl ?_
   refine aj hI 0 rfl ac rfl rfl (by simp [Value.oneCell']) fun w' hI=>?_
   refine aS hI 0 ac rfl rfl ?_
   exact ⟨_,[],S1,rfl,hI.nil,hE,rfl,_,rfl,hds⟩
  | some q=>
   obtain ⟨name,after⟩:=q
   rw [hop] at ho
   simp only [] at ho
   simp only [opV]
   have hol:=Mq hop
   refine ai (v:=.string (st name)) rfl ?_
   refine ai (v:=.int .i64 (after:Int)) rfl ?_
   refine ⟨fun b w'=>b=.bool (!decide (aO (st name)=((l+1:Nat):Int)))/\Inv w [] [.blk b8 (.cells #[.int .i64 0,.int .i64 0,.string ⟨#[]⟩,.slice none 0 0] ab),.blk b10 (.cells #[.int .i64 t'.kind,.int .i64 t'.n,.string t'.name,.slice da t'.kids.length dm] ab)] S1 w',?_,?_⟩
   ·refine rg (b:=[]) ?_
    rw [decide_eq_false hol.2.2.2]
    refine rpG ?_
    refine Run.callPure dN dP hI (cX _ S1) fun w' hI=>?_
    refine dt ?_
    refine rpG ?_
    exact ⟨rfl,hI⟩
   intro t48 _ _ _ _ _ _ _ w'
   rintro ⟨rfl,hI⟩
   split at ho
   ·rename_i hlv
    rw [decide_eq_true hlv]
    refine av (fun hb=>by cases hb) (fun _=>?_)
    split at ho
    ·cases ho
    rename_i r e hr
    have hle:=(fI g).1 _ _ _ _ _ _ hr
    refine zE (a:=l+1) (b:=1) rfl rfl (by omega) (by omega) ?_
    rw [Nat.add_sub_cancel]
    refine Run.call0E eA eE hI (ihR g (by omega) s after d l r e S1 hr hs (by omega) hd (by omega)) fun v I' S2 w'=>?_
    rintro ⟨rfl,es,rfl,hes⟩ hE2 hI
    obtain ⟨ke,rfl,_,_,_,ea,em,rfl,_⟩:=RdT.iff.1 hes
    refine ai (v:=.agg _) rfl ?_
    refine ai (v:=.int .i64 (e:Int)) rfl ?_
    refine aA hI aU fun b14 w' hI=>?_
    refine aj hI 2 rfl ac rfl rfl (by simp [Value.oneCell']) fun w' hI=>?_
    refine dU (by omega) ?_
    refine av (fun hb=>by cases hb) (fun _=>?_)
    refine ag hI 1 ac rfl rfl ?_
    refine ag hI 2 ac rfl rfl ?_
    refine od (v:=fun b=>.slice (some ⟨b,0,none⟩) 2 2) (o:=.cells #[.int .i64 t'.kind,.int .i64 t'.n,.string t'.name,.slice da t'.kids.length dm,.int .i64 r.kind,.int .i64 r.n,.string r.name,.slice ea r.kids.length em] ab) hI (by kernel_rfl) fun b20 w' hI=>?_
    obtain ⟨S3,hI,hE3,hS3⟩:=Inv.pub1 (A:=[_,_,_]) hI
    have hks:=HW hS3 (RdT.mono (hE2.1.trans hE3.1) hds) (RdT.mono hE3.1 hes)
    refine Run.call0E dq dp hI (dO (st name) (CG hol.2.2.1) hks (by simp)) fun v I' S4 w'=>?_
    rintro ⟨rfl,gs,rfl,hgs⟩ hE4 hI
    obtain ⟨kg,rfl,_,_,_,ga,gm,rfl,_⟩:=RdT.iff.1 hgs
    have hE':=((hE.trans hE2).trans hE3).trans hE4
    refine aj hI 1 rfl ac rfl rfl (by simp [Value.oneCell']) fun w' hI=>?_
    split at ho
    ·rename_i hl2
     subst hl2
     simp only [Option.some.injEq,Prod.mk.injEq] at ho
     obtain ⟨rfl,rfl⟩:=ho
     refine dx rfl ?_
     refine av (fun _=>?_) (fun hb=>by cases hb)
     refine ag hI 1 ac rfl rfl ?_
     refine aj hI 0 rfl ac rfl rfl (by simp [Value.oneCell']) fun w' hI=>?_
     refine aS hI 0 ac rfl rfl ?_
     exact ⟨_,[],S4,rfl,hI.nil,hE',rfl,_,rfl,hgs⟩
    ·refine cQ (by omega) ?_
     refine av (fun hb=>by cases hb) (fun _=>?_)
     refine ⟨⟨g,e,_,_,S4,by omega,rfl,hle.2,ho,hE',hgs,hI.pick [true,true,false]⟩,?_⟩
     simp only [intOf,Int.toNat_natCast]
     omega
   ·rename_i hlv
    rw [decide_eq_false hlv]
    simp only [Option.some.injEq,Prod.mk.injEq] at ho
    obtain ⟨rfl,rfl⟩:=ho
    refine av (fun _=>?_) (fun hb=>by cases hb)
    refine ag hI 1 ac rfl rfl ?_
    refine aj hI 0 rfl ac rfl rfl (by simp [Value.oneCell']) fun w' hI=>?_
    refine aS hI 0 ac rfl rfl ?_
    exact ⟨_,[],S1,rfl,hI.nil,hE,rfl,_,rfl,hds⟩
theorem Mc:∀ F f,f<F->nN f/\Dw f/\rV f
 | 0,f,h=>by omega
 | F+1,f,h=>by
  have ih:=Mc F
  have hR:nN f:=Ny (fun g hg=>(ih g (by omega)).1) (fun g hg=>(ih g (by omega)).2.1)
  have hT:rV f:=LU fun g hg=>(ih g (by omega)).1
  exact ⟨hR,MI (fun g hg=>(ih g (by omega)).1) (fun g hg=>(ih g (by omega)).2.2),hT⟩
theorem vC (f:Nat):nN f:=(Mc (f+1) f (by omega)).1
end

end Go.Proofs.YtbocelianhcfmaaGreatDoor
