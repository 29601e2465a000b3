/- Texts read: spec.l1Struct, l1Chain, l2Read, l2Prime, l2Terms, l2Items. (printed by gen_read.py) -/
import Derived.Test.YtgllldjiaglkcaaGreatDoorZDr5
import Derived.Test.YtgllldjiaglkcaaGreatDoorZDr3
import Derived.Test.YtgllldjiaglkcaaGreatDoorZDr4
namespace Go.Proofs.YtgllldjiaglkcaaGreatDoor
section
open Go Go.RowKit
theorem Nl {s:Bs} {i e:Nat} {t:T} (hn:L7 s i=some (t,e)):i<e/\e<=s.length:=by
 unfold L7 at hn
 obtain ⟨fr,hfr⟩:∃ fr,fr=if sgn s i 45=true then i+1 else i:=⟨_,rfl⟩
 simp only [<- hfr] at hn
 have hle:=Ei s 4 fr
 have hfi:i<=fr/\fr<=i+1:=by rw [hfr]; split <;> omega
 split at hn
 ·cases hn
 rename_i hc
 simp only [not_or] at hc
 simp only [Option.some.injEq,Prod.mk.injEq] at hn
 obtain ⟨_,rfl⟩:=hn
 have h2:fr<pP s 4 fr:=by
  rcases Nat.lt_or_ge fr (pP s 4 fr) with h|h
  ·exact h
  ·refine absurd ?_ hc.1
   rw [cut,List.drop_eq_nil_of_le]
   rw [List.length_take]
   omega
 have:=yh (sv s 4 fr (pP s 4 fr - 1) (by omega) (by omega))
 omega
theorem fF:∀ f:Nat,(∀ s i d l t n,hH f s i d l=some (t,n)->i<n/\n<=s.length)/\(∀ s i d l t0 t n,EV f s i d l t0=some (t,n)->i<=s.length->i<=n/\n<=s.length)/\
  (∀ s i d t n,ru f s i d=some (t,n)->i<n/\n<=s.length)/\(∀ s i d e o acc ts n,fX f s i d e o acc=some (ts,n)->i<n/\n<s.length)
 | 0=>⟨fun s i d l t n h=>by simp [hH] at h,fun s i d l t0 t n h=>by simp [EV] at h,fun s i d t n h=>by simp [ru] at h,fun s i d e o acc ts n h=>by simp [fX] at h⟩
 | f+1=>by
  obtain ⟨h1,h2,h3,h4⟩:=fF f
  refine ⟨fun s i d l t n h=>?_,fun s i d l t0 t n h hi=>?_,fun s i d t n h=>?_,fun s i d e o acc ts n h=>?_⟩
  ·cases l with
   | zero=>rw [hH] at h; exact h3 _ _ _ _ _ h
   | succ l=>
    rw [hH] at h
    split at h
    ·cases h
    ·rename_i t' n' hr
     have a:=h1 _ _ _ _ _ _ hr
     have b:=h2 _ _ _ _ _ _ _ h a.2
     omega
  ·rw [EV] at h
   split at h
   ·simp only [Option.some.injEq,Prod.mk.injEq] at h
    omega
   ·rename_i name after ho
    have a:=LI ho
    split at h
    ·split at h
     ·cases h
     ·rename_i r e hr
      have b:=h1 _ _ _ _ _ _ hr
      split at h
      ·simp only [Option.some.injEq,Prod.mk.injEq] at h
       omega
      ·have c:=h2 _ _ _ _ _ _ _ h b.2
       omega
    ·simp only [Option.some.injEq,Prod.mk.injEq] at h
     omega
  ·rw [ru] at h
   split at h
   ·cases h
   rename_i h0
   have h0:i<s.length:=by omega
   split at h
   ·split at h
    ·cases h
    ·rename_i t' n' hr
     have a:=h1 _ _ _ _ _ _ hr
     split at h
     ·rename_i hs
      have:=fV hs
      simp only [Option.some.injEq,Prod.mk.injEq] at h
      omega
     ·cases h
   ·split at h
    ·split at h
     ·cases h
     ·rename_i ts n' hr
      have a:=h4 _ _ _ _ _ _ _ _ hr
      split at h
      ·simp only [Option.some.injEq,Prod.mk.injEq] at h
       omega
      ·split at h
       ·cases h
       ·rename_i t' e hr2
        have b:=h1 _ _ _ _ _ _ hr2
        split at h
        ·rename_i hs
         have:=fV hs
         simp only [Option.some.injEq,Prod.mk.injEq] at h
         omega
        ·cases h
    ·split at h
     ·simp only [Option.some.injEq,Prod.mk.injEq] at h
      omega
     ·split at h
      ·exact Nl h
      ·split at h
       ·cases h
       ·rename_i name n' hn
        have a:=td h0 hn
        split at h
        ·simp only [Option.some.injEq,Prod.mk.injEq] at h
         omega
        ·split at h
         ·cases h
         ·rename_i ts e hr
          have b:=h4 _ _ _ _ _ _ _ _ hr
          simp only [Option.some.injEq,Prod.mk.injEq] at h
          omega
  ·rw [fX] at h
   split at h
   ·cases h
   ·rename_i t' n' hr
    have a:=h1 _ _ _ _ _ _ hr
    split at h
    ·rename_i hs
     have hlt:n'<s.length:=hs.elim fV fV
     simp only [Option.some.injEq,Prod.mk.injEq] at h
     omega
    ·split at h
     ·have b:=h4 _ _ _ _ _ _ _ _ h
      omega
     ·cases h
abbrev Qn (t:T):Value->List Item->ad->Prop:=fun v I' S'=>I'=[]/\∃ cs,v=.agg cs.toArray/\RdT S' cs t
abbrev Lv (t:T) (n:Nat):Value->List Item->ad->Prop:=fun v I' S'=>I'=[]/\∃ cs,v=.tuple #[.agg cs.toArray,.int .i64 (n:Int)]/\RdT S' cs t
abbrev OH (ts:List T) (n:Nat):Value->List Item->ad->Prop:=fun v I' S'=>I'=[]/\∃ u,v=.tuple #[u,.int .i64 (n:Int)]/\RdSl S' 4 (RdT S') u ts
theorem iR (S:ad):RdSl S 4 (RdT S) (.slice none 0 0) []:=⟨none,0,rfl,Nat.le_refl _,Nat.zero_le _,.inl rfl⟩
theorem Hz {S:ad} {b:Nat} {E:TypeId} {a c:T} {k1 n1 k2 n2:Int} {s1 s2:ByteArray} {v1 v2:Value} (hS:S b=some (.cells #[.int .i64 k1,.int .i64 n1,.string s1,v1,.int .i64 k2,.int .i64 n2,.string s2,v2] E))
  (h1:RdT S [.int .i64 k1,.int .i64 n1,.string s1,v1] a) (h2:RdT S [.int .i64 k2,.int .i64 n2,.string s2,v2] c):RdSl S 4 (RdT S) (.slice (some ⟨b,0,none⟩) 2 2) [a,c]:=by
 refine ⟨_,2,rfl,Nat.le_refl _,by simp [maxLen],.inr ⟨b,0,_,E,(0,0),rfl,hS,fun i hi=>?_⟩⟩
 match i,hi with
 | 0,_=>exact h1
 | 1,_=>exact h2
section
variable {w w0:World} {X:List Nat} {L:List Item} {S:ad} {K:Value->World->Prop}
attribute [local irreducible] Run CondV ai az
theorem dJ {P:Program} {T:TypeId} {cx cy:Bool} {x y:Int} {a b:Nat} (hx:x=a) (hy:y=b) (hr:a+b<=1000000000000000) (hk:K (.int .i64 ((a+b:Nat):Int)) w):Run P (bN .add T cx cy (.int .i64 x) (.int .i64 y)) w K:=by
 subst hx hy
 refine bq (by omega) ?_
 rw [<- Int.natCast_add]
 exact hk
theorem zW {P:Program} {T:TypeId} {cx cy:Bool} {x y:Int} {a b:Nat} (hx:x=a) (hy:y=b) (hle:b<=a) (hr:a<=1000000000000000) (hk:K (.int .i64 ((a - b:Nat):Int)) w):Run P (bN .sub T cx cy (.int .i64 x) (.int .i64 y)) w K:=by
 subst hx hy
 refine iw (by omega) ?_
 rw [<- Int.ofNat_sub hle]
 exact hk
theorem qi {s:ByteArray} {v:Value} (hv:∃ p n m,v=.slice p n m) (hk:K (.agg #[.int .i64 3,.int .i64 0,.string s,v]) w):Run Tryz.prog (bJ ab [(0,.int .i64 3),(2,.string s),(3,v)]) w K:=by
 obtain ⟨p,n,m,rfl⟩:=hv
 refine Run.of (v:=.agg #[.int .i64 3,.int .i64 0,.string s,.slice p n m]) (w':=w) ?_ hk
 unfold bJ
 rw [Sem.run_bind,run_build w ab _ #[.int .i64 3,.int .i64 0,.string s,.slice p n m] (by kernel_rfl),Result.andThen_ok]
 rfl
theorem sr (s:ByteArray) {ks:List T} {u:Value} (h:RdSl S 4 (RdT S) u ks) (hk:ks.length<=1000000):Tri Tryz.prog sa [.string s,u] [] S fun v I' S'=>S'=S/\∃ kv css,v=.agg #[.int .i64 3,.int .i64 0,.string s,kv]/\I'=[aC kv ab 4 css]/\Rows 4 (RdT S) css ks:=by
 intro w hI
 refine qo.2 ?_
 dsimp only[qo,aX]
 refine aM hI aU fun b4 w' hI=>?_
 refine eJ hI bu fun v0 w' hI=>?_
 have hI:Inv w [] [.blk b4 (.cells #[.int .i64 0,.int .i64 0,.string ⟨#[]⟩,.slice none 0 0] ab),aC v0 ab 4 []] S w':=hI
 refine rv hI 1 (css:=[]) bu (by omega) rfl h (fun _ _=>RdT.length) (fun _ _=>RdT.one) (by simp; omega) (by omega) fun v' w' css2 hR hI=>?_
 have hI:Inv w [] [.blk b4 (.cells #[.int .i64 0,.int .i64 0,.string ⟨#[]⟩,.slice none 0 0] ab),aC v' ab 4 css2] S w':=hI
 obtain ⟨a,n,c,rfl⟩:=hI.rowSlice 1 rfl
 refine qi ⟨_,_,_,rfl⟩ ?_
 refine av hI 0 rfl ac rfl rfl (by simp [Value.oneCell']) fun w' hI=>?_
 refine bl hI 0 ac rfl rfl ?_
 exact ⟨_,_,_,rfl,hI.sub (List.sublist_cons_self _ _),Ext.refl _ _ _,rfl,_,css2,rfl,rfl,hR⟩
theorem c7 (s:ByteArray) (hs:s.size<=maxLen) {ks:List T} {u:Value} (h:RdSl S 4 (RdT S) u ks) (hk:ks.length<=1000000):Tri Tryz.prog sa [.string s,u] [] S (Qn (.mk 3 0 s ks)):=by
 intro w hI
 refine (sr s h hk w hI).mono ?_
 rintro e w' ⟨v,I',S',rfl,hI,hE,rfl,kv,css,rfl,rfl,hR⟩
 obtain ⟨S1,hE1,hrd,hI⟩:=Inv.lendExt (A:=[]) hI
 have hrs:=RowRd.rows (hR.monoR fun _ _ h=>RdT.mono hE1.1 h) hrd
 exact ⟨_,[],S1,rfl,hI,hE.trans hE1,rfl,[.int .i64 3,.int .i64 0,.string s,kv],rfl,RdT.iff.2 ⟨kv,rfl,by simp [inI,T.kind],by simp [inI,T.n],hs,hrs⟩⟩
theorem H0 {ts:List T} {j:Nat} (h:j<ts.length) (t:T):gO (ts.drop j) t=EQ ts[j] (gO (ts.drop (j+1)) t):=by
 rw [List.drop_eq_getElem_cons h,gO]
theorem p8 {ts:List T} {t:T} {u:Value} {cs:List Value} (h:RdSl S 4 (RdT S) u ts) (ht:RdT S cs t) (hl:ts.length<=1000000):Tri Tryz.prog GW [u,.agg cs.toArray] [] S (Qn (gO ts t)):=by
 intro w hI
 obtain ⟨kv,rfl,g1,g2,g3,g4⟩:=RdT.iff.1 ht
 obtain ⟨ka,kn,kc,hkv⟩:∃ a n m,kv=.slice a n m:=by
  obtain ⟨a,m,e,_⟩:=g4
  exact ⟨_,_,_,e⟩
 refine tA.2 ?_
 dsimp only[tA,aX]
 refine bt hI fun b3 w' hI=>?_
 refine aM hI aU fun b4 w' hI=>?_
 refine aA hI 0 ac rfl rfl ?_
 refine aM hI aU fun b5 w' hI=>?_
 refine av hI 2 rfl ac rfl rfl (by simp [Value.oneCell',Value.cells,hkv]) fun w' hI=>?_
 refine aG h ah ?_
 refine iw (by omega) ?_
 obtain ⟨B3,hB3⟩:∃ B3,B3=Item.blk b3 (.cells #[.int .i64 t.kind,.int .i64 t.n,.string t.name,kv] ab):=⟨_,rfl⟩
 have hI:Inv w [] [B3,.blk b4 (.cells #[.int .i64 0,.int .i64 0,.string ⟨#[]⟩,.slice none 0 0] ab),.blk b5 (.cells #[.int .i64 t.kind,.int .i64 t.n,.string t.name,kv] ab)] S w':=by rw [hB3]; exact hI
 refine ⟨fun i w'=>∃ (j:Nat) (S1:ad) (ds:List Value),j<=ts.length/\i=.int .i64 ((j:Int) - 1)/\Ext w.heap.size [] S S1/\RdT S1 ds (gO (ts.drop j) t)/\Inv w [] [B3,.blk b4 (.cells #[.int .i64 0,.int .i64 0,.string ⟨#[]⟩,.slice none 0 0] ab),.blk b5 (.cells ds.toArray ab)] S1 w',
  fun i _=>(intOf i+1).toNat,⟨ts.length,S,_,Nat.le_refl _,rfl,Ext.refl _ _ _,by rw [List.drop_length]; exact ht,hI⟩,?_⟩
 intro t6 _ _ t21 t20 t19 t18 t17 t16 t15 _ _ w'
 rintro ⟨j,S1,ds,hj,rfl,hE,hds,hI⟩
 by_cases hj0:j=0
 ·subst hj0
  refine ut (by omega) ?_
  refine aw (fun hb=>by cases hb) (fun _=>?_)
  obtain ⟨kv',rfl,_,_,_,a,m,rfl,_⟩:=RdT.iff.1 hds
  refine aA hI 2 ac rfl rfl ?_
  refine av hI 1 rfl ac rfl rfl (by simp [Value.oneCell']) fun w' hI=>?_
  refine bl hI 1 ac rfl rfl ?_
  exact ⟨_,_,_,rfl,hI.nil,hE,rfl,_,rfl,hds⟩
 ·refine ml (by omega) ?_
  refine aw (fun _=>?_) (fun hb=>by cases hb)
  obtain ⟨m,rfl⟩:∃ m,j=m+1:=⟨j - 1,by omega⟩
  have hm:m<ts.length:=by omega
  have ej:((m+1:Nat):Int) - 1=(m:Int):=by omega
  rw [ej]
  obtain ⟨b,o,cap,c,E,fz,rfl,hS,hR⟩:=(h.monoT hE.1).at_ hm
  obtain ⟨ka',hca,_,_,_,aa,am,hka',_⟩:=RdT.iff.1 hR
  subst hka'
  obtain ⟨kd,rfl,_,_,_,da,dm,rfl,_⟩:=RdT.iff.1 hds
  obtain ⟨o1,ho1⟩:∃ o1,o1=gO (ts.drop (m+1)) t:=⟨_,rfl⟩
  rw [<- ho1] at hds hI
  obtain ⟨a1,ha1⟩:∃ a1,a1=ts[m]:=⟨_,rfl⟩
  rw [<- ha1] at hR hca
  skip
  refine ⟨fun D rD md sn EX rl B8 JU w_=>Fx D 0 [JU=.slice (some ⟨b,o,none⟩) ts.length cap,B8=.int .i64 (m:Int),rl=.pointer (some ⟨b,o+m * 4,none⟩),EX=.agg #[.int .i64 a1.kind,.int .i64 a1.n,.string a1.name,.slice aa a1.kids.length am],sn=.agg #[.int .i64 o1.kind,.int .i64 o1.n,.string o1.name,.slice da o1.kids.length dm],True,True,True]/\∃ S2 c6,Ext w.heap.size [] S1 S2/\(D 5=true->RdSl S2 4 (RdT S2) md [a1,o1])/\(D 6=true->rD=.agg c6.toArray/\RdT S2 c6 (EQ a1 o1))/\(D 7=true->D 6=true)/\(D 6=true->D 5=true)/\(D 5=true->D 4=true)/\Inv w [] [B3,.blk b4 (.cells #[.int .i64 0,.int .i64 0,.string ⟨#[]⟩,.slice none 0 0] ab),.blk b5 (.cells (match D 7 with|true=>c6.toArray|false=>#[.int .i64 o1.kind,.int .i64 o1.n,.string o1.name,.slice da o1.kids.length dm]) ab)] S2 w_,⟨Fx.nil _ _,⟨S1,[],Ext.refl _ _ _,aK,aK,aK,aK,aK,hI.draw⟩⟩,⟨?_,?_,?_,?_,?_,?_,?_,?_,trivial⟩,?_⟩
  all_goals (intro D bx; intros; rename_i rD md sn EX rl B8 JU w_ hA_; have hF_:=hA_.1; obtain ⟨⟨cr,cq,ct,cu,cz,cB,bP,cT,_⟩,⟨S2,c6,hE2,e5,e6,k7,k6,k5,hI⟩⟩:=hA_)
  ·exact ⟨hF_.set 0 rfl,⟨S2,c6,hE2,e5,e6,k7,k6,k5,hI⟩⟩
  ·exact ⟨hF_.set 1 rfl,⟨S2,c6,hE2,e5,e6,k7,k6,k5,hI⟩⟩
  ·obtain rfl:=cr ‹_›
   obtain rfl:=cq ‹_›
   refine aH ah hm ?_
   exact ⟨hF_.set 2 rfl,⟨S2,c6,hE2,e5,e6,k7,k6,k5,hI⟩⟩
  ·obtain rfl:=ct ‹_›
   refine b0 (cs:=[.int .i64 a1.kind,.int .i64 a1.n,.string a1.name,.slice aa a1.kids.length am]) ac rfl (fun j v hj=>by rw [hI.cellS (hE2.1 _ _ hS)]; exact aO hca j v hj) ?_
   exact ⟨hF_.set 3 rfl,⟨S2,c6,hE2,e5,e6,k7,k6,k5,hI⟩⟩
  ·have f5:D 5=false:=Bool.eq_false_iff.2 fun h=>by rw [k5 h] at bx; cases bx
   have f6:D 6=false:=Bool.eq_false_iff.2 fun h=>by rw [k6 h] at f5; cases f5
   have f7:D 7=false:=Bool.eq_false_iff.2 fun h=>by rw [k7 h] at f6; cases f6
   have hI0:=hI
   rw [f7] at hI
   refine aA hI 2 ac rfl rfl ?_
   have hI:=hI0
   have k5:=fun (_:ar D 4 5=true)=>(rfl:ar D 4 4=true)
   exact ⟨hF_.set 4 rfl,⟨S2,c6,hE2,e5,e6,k7,k6,k5,hI⟩⟩
  ·obtain rfl:=cu ‹_›
   obtain rfl:=cz ‹_›
   have f6:D 6=false:=Bool.eq_false_iff.2 fun h=>by rw [k6 h] at bx; cases bx
   have f7:D 7=false:=Bool.eq_false_iff.2 fun h=>by rw [k7 h] at f6; cases f6
   rw [f7] at hI
   refine qV (v:=fun b=>.slice (some ⟨b,0,none⟩) 2 2) (o:=.cells #[.int .i64 a1.kind,.int .i64 a1.n,.string a1.name,.slice aa a1.kids.length am,.int .i64 o1.kind,.int .i64 o1.n,.string o1.name,.slice da o1.kids.length dm] ab) hI (by kernel_rfl) fun b20 w_ hI=>?_
   obtain ⟨S2,hI,hE3,hS3⟩:=Inv.pub1 (A:=[_,_,_]) hI
   have hE2:=hE2.trans hE3
   have hR':RdT S2 [.int .i64 a1.kind,.int .i64 a1.n,.string a1.name,.slice aa a1.kids.length am] a1:=by
    have:=RdT.mono hE2.1 hR
    rwa [hca] at this
   have e5:=fun (_:ar D 5 5=true)=>Hz hS3 hR' (RdT.mono hE2.1 hds)
   have e6:=fun (h:D 6=true)=>(absurd h (by rw [f6]; decide):rD=.agg c6.toArray/\RdT S2 c6 (EQ a1 o1))
   have k6:=fun (_:ar D 5 6=true)=>(rfl:ar D 5 5=true)
   have k5:=fun (_:ar D 5 5=true)=>‹D 4=true›
   have hI:Inv w [] [B3,.blk b4 (.cells #[.int .i64 0,.int .i64 0,.string ⟨#[]⟩,.slice none 0 0] ab),.blk b5 (.cells (match D 7 with|true=>c6.toArray|false=>#[.int .i64 o1.kind,.int .i64 o1.n,.string o1.name,.slice da o1.kids.length dm]) ab)] S2 w_:=by
    rw [f7]
    exact hI
   exact ⟨hF_.set 5 (by first|assumption|trivial),⟨S2,c6,hE2,e5,e6,k7,k6,k5,hI⟩⟩
  ·have I7:=cB ‹_›
   have f7:D 7=false:=Bool.eq_false_iff.2 fun h=>by rw [k7 h] at bx; cases bx
   rw [f7] at hI
   refine Run.call0E cJ cH hI (c7 ⟨#[46]⟩ (by decide +kernel) (e5 ‹D 5=true›) (by simp)) fun v' I' S2 w_=>?_
   rintro ⟨rfl,c6,rfl,hc6⟩ hE3 hI
   have hE2:=hE2.trans hE3
   have e5:=fun (h:D 5=true)=>(e5 h).monoT hE3.1
   have e6:ar D 6 6=true->Value.agg c6.toArray=Value.agg c6.toArray/\RdT S2 c6 (EQ a1 o1):=fun _=>⟨rfl,hc6⟩
   have k7:=fun (_:ar D 6 7=true)=>(rfl:ar D 6 6=true)
   have k6:=fun (_:ar D 6 6=true)=>‹D 5=true›
   have hI:Inv w [] [B3,.blk b4 (.cells #[.int .i64 0,.int .i64 0,.string ⟨#[]⟩,.slice none 0 0] ab),.blk b5 (.cells (match D 7 with|true=>c6.toArray|false=>#[.int .i64 o1.kind,.int .i64 o1.n,.string o1.name,.slice da o1.kids.length dm]) ab)] S2 w_:=by
    rw [f7]
    exact hI
   exact ⟨hF_.set 6 (by first|assumption|trivial),⟨S2,c6,hE2,e5,e6,k7,k6,k5,hI⟩⟩
  ·have IU:=bP ‹_›
   obtain ⟨q6,hc6⟩:=e6 ‹D 6=true›
   subst q6
   rw [bx] at hI
   have hone:=hc6.one
   have hlen:=hc6.length
   refine av hI 2 rfl ac (by simpa using hlen) rfl (by simpa using hone) fun w_ hI=>?_
   have k7:=fun (_:ar D 7 7=true)=>‹D 6=true›
   exact ⟨hF_.set 7 trivial,⟨S2,c6,hE2,e5,e6,k7,k6,k5,hI⟩⟩
  obtain ⟨rfl,rfl,rfl,rfl,rfl,I7,IU,_,_⟩:=hF_.all
  have KW:D 6=true:=by assumption
  have zn:D 7=true:=by assumption
  clear hF_ cr cq ct cu cz cB bP cT
  rw [zn] at hI
  obtain ⟨_,hc6⟩:=e6 KW
  refine iw (by omega) ?_
  refine ⟨⟨m,S2,c6,by omega,rfl,hE.trans hE2,?_,hI⟩,by simp [intOf]⟩
  rw [H0 hm,<- ha1,<- ho1]
  exact hc6
end
def n8 (f:Nat):Prop:=∀ (s:Bs) (i d l:Nat) (t:T) (n:Nat) (S:ad),hH f s i d l=some (t,n)->s.length<=100000->i<=s.length->d<=100->l<=3->
 Tri Tryz.prog G1 [.string (st s),.int .i64 (i:Int),.int .i64 (d:Int),.int .i64 (l:Int)] [] S (Lv t n)
def CV (f:Nat):Prop:=∀ (s:Bs) (i d:Nat) (t:T) (n:Nat) (S:ad),ru f s i d=some (t,n)->s.length<=100000->i<=s.length->d<=100->
 Tri Tryz.prog FZ [.string (st s),.int .i64 (i:Int),.int .i64 (d:Int)] [] S (Lv t n)
def si (f:Nat):Prop:=∀ (s:Bs) (i d e o:Nat) (ts:List T) (n:Nat) (S:ad),fX f s i d e o []=some (ts,n)->s.length<=100000->i<=s.length->d<=100->
 Tri Tryz.prog EW [.string (st s),.int .i64 (i:Int),.int .i64 (d:Int),.int .u8 (e:Int),.int .u8 (o:Int)] [] S (OH ts n)
theorem Cv:∀ (f:Nat) (s:Bs) (i d e o:Nat) (acc ts:List T) (n:Nat),fX f s i d e o acc=some (ts,n)->ts.length+i<=acc.length+n
 | 0,s,i,d,e,o,acc,ts,n,h=>by simp [fX] at h
 | f+1,s,i,d,e,o,acc,ts,n,h=>by
  rw [fX] at h
  split at h
  ·cases h
  ·rename_i t' n' hr
   have a:=(fF f).1 _ _ _ _ _ _ hr
   split at h
   ·simp only [Option.some.injEq,Prod.mk.injEq] at h
    obtain ⟨rfl,rfl⟩:=h
    rw [List.length_append]
    simp only [List.length_cons,List.length_nil]
    omega
   ·split at h
    ·have b:=Cv f _ _ _ _ _ _ _ _ h
     rw [List.length_append] at b
     simp only [List.length_cons,List.length_nil] at b
     omega
    ·cases h
section
attribute [local irreducible] Run CondV ai az
theorem MK {f:Nat} (ih:∀ g,g<f->n8 g):si f:=by
 intro s i d e o ts n S h hs hi hd w hI
 refine tT.2 ?_
 dsimp only[tT,CL]
 refine eJ hI bu fun v0 w' hI=>?_
 refine ⟨fun a b w'=>∃ (f' i':Nat) (acc:List T) (S1:ad) (css:List (List Value)),f'<=f/\a=.int .i64 (i':Int)/\i<=i'/\i'<=s.length/\acc.length+i<=i'/\fX f' s i' d e o acc=some (ts,n)/\Ext w.heap.size [] S S1/\Rows 4 (RdT S1) css acc/\Inv w [] [aC b ab 4 css] S1 w',
  fun a _ _=>s.length+1 - (intOf a).toNat,⟨f,i,[],S,[],Nat.le_refl _,rfl,Nat.le_refl _,hi,by simp,h,Ext.refl _ _ _,Rows.nil _ _,hI⟩,?_⟩
 intro t1 _ _ _ _ _ _ _ _ _ _ _ _ _ _ _ _ _ _ _ _ t12 _ _ _ _ _ _ _ _ _ _ _ _ _ _ _ _ _ _ w'
 rintro ⟨f',i',acc,S1,css,hf',rfl,hi1,hi2,hacc,hT,hE,hR,hI⟩
 have hcl:=hR.hc
 cases f' with
 | zero=>simp [fX] at hT
 | succ g=>
 rw [fX] at hT
 split at hT
 ·cases hT
 rename_i t n' hr
 have hle:=(fF g).1 _ _ _ _ _ _ hr
 refine Run.call0E eT eR hI (ih g (by omega) s i' d 3 t n' S1 hr hs hi2 hd (by omega)) fun v I' S2 w'=>?_
 rintro ⟨rfl,cs,rfl,hcs⟩ hE2 hI
 have hR2:=hR.monoR fun _ _ h=>RdT.mono hE2.1 h
 obtain ⟨kv,rfl,_,_,_,a,m,rfl,_⟩:=RdT.iff.1 hcs
 refine al (v:=.agg _) rfl ?_
 refine al (v:=.int .i64 (n':Int)) rfl ?_
 refine aM hI aU fun b13 w' hI=>?_
 refine av hI 1 rfl ac rfl rfl (by simp [Value.oneCell']) fun w' hI=>?_
 refine dG (by omega) ?_
 refine aw (fun hb=>by cases hb) (fun _=>?_)
 refine aA hI 1 ac rfl rfl ?_
 refine cR (css:=css) hI 0 _ bu (by omega) (by omega) rfl hcs.length hcs.one (by omega) (by omega) fun v' w' hI=>?_
 have hI:Inv w [] [aC v' ab 4 (css++[[.int .i64 t.kind,.int .i64 t.n,.string t.name,.slice a t.kids.length m]])] S2 w':=hI.pick [true,false]
 have hR3:=hR2.snoc hcs hcs.length
 refine ⟨fun b w'=>b=.bool (sgn s n' e || sgn s n' o)/\Inv w [] [aC v' ab 4 (css++[[.int .i64 t.kind,.int .i64 t.n,.string t.name,.slice a t.kids.length m]])] S2 w',?_,?_⟩
 ·refine Run.callPure bZ bY hI (bL s n' e S2) fun w' hI=>?_
  cases he:sgn s n' e
  ·refine rpG ?_
   refine Run.callPure bZ bY hI (bL s n' o S2) fun w' hI=>?_
   refine rpG ?_
   exact ⟨by simp,hI⟩
  ·refine rpG ?_
   exact ⟨by simp,hI⟩
 intro t39 _ _ _ _ _ _ _ _ _ w'
 rintro ⟨rfl,hI⟩
 refine aw (fun hb=>?_) (fun hb=>?_)
 ·rw [Bool.or_eq_true] at hb
  rw [if_pos hb] at hT
  simp only [Option.some.injEq,Prod.mk.injEq] at hT
  obtain ⟨rfl,rfl⟩:=hT
  obtain ⟨S3,hE3,hrd,hI⟩:=Inv.lendExt (A:=[]) hI
  have hrs:=RowRd.rows (hR3.monoR fun _ _ h=>RdT.mono hE3.1 h) hrd
  exact ⟨_,[],S3,rfl,hI,(hE.trans hE2).trans hE3,rfl,_,rfl,hrs⟩
 ·have hb':¬ (sgn s n' e=true ∨ sgn s n' o=true):=fun h=>by rw [<- Bool.or_eq_true,hb] at h; cases h
  rw [if_neg hb'] at hT
  split at hT
  ·rename_i h44
   refine Run.callPure bZ bY hI (bL s n' 44 S2) fun w' hI=>?_
   refine bK ?_
   rw [h44]
   refine aw (fun hb=>by cases hb) (fun _=>?_)
   have:=fV h44
   refine dJ (a:=n') (b:=1) rfl rfl (by omega) ?_
   refine ⟨⟨g,n'+1,acc++[t],S2,css++[[.int .i64 t.kind,.int .i64 t.n,.string t.name,.slice a t.kids.length m]],by omega,rfl,by omega,by omega,?_,hT,hE.trans hE2,hR3,hI⟩,?_⟩
   ·rw [List.length_append]; simp only [List.length_cons,List.length_nil]; omega
   ·simp only [intOf,Int.toNat_natCast]; omega
  ·cases hT
theorem Ga {g:Nat} (hT:si g) (hR:n8 g) {s:Bs} {i d:Nat} {ts:List T} {n:Nat} {t:T} {e:Nat} (h1:fX g s i d 93 124 []=some (ts,n))
  (h2:(sgn s n 93=true/\t=gO ts PI/\e=n+1) ∨ (sgn s n 93=false/\∃ u m,hH g s (n+1) d 3=some (u,m)/\sgn s m 93=true/\t=gO ts u/\e=m+1))
  (hs:s.length<=100000) (hi:i<=s.length) (hd:d<=100) (S:ad):Tri Tryz.prog FN [.string (st s),.int .i64 (i:Int),.int .i64 (d:Int)] [] S (Lv t e):=by
 intro w hI
 have hle:=(fF g).2.2.2 _ _ _ _ _ _ _ _ h1
 have hln:=Cv _ _ _ _ _ _ _ _ _ h1
 simp only [List.length_nil] at hln
 refine sW.2 ?_
 dsimp only[sW,fe]
 refine aM hI aU fun b6 w' hI=>?_
 refine Run.call0E s9 sR hI (hT s i d 93 124 ts n S h1 hs hi hd) fun v I' S1 w'=>?_
 rintro ⟨rfl,u,rfl,hu⟩ hE1 hI
 have hI:Inv w [] [.blk b6 (.cells #[.int .i64 0,.int .i64 0,.string ⟨#[]⟩,.slice none 0 0] ab)] S1 w':=hI
 refine al (v:=u) rfl ?_
 refine al (v:=.int .i64 (n:Int)) rfl ?_
 refine dG (by omega) ?_
 refine aw (fun hb=>by cases hb) (fun _=>?_)
 refine Run.callPure bZ bY hI (bL s n 93 S1) fun w' hI=>?_
 rcases h2 with ⟨h3,rfl,rfl⟩|⟨h3,x,m,h4,h5,rfl,rfl⟩
 ·rw [h3]
  refine aw (fun _=>?_) (fun hb=>by cases hb)
  refine Run.call0E cJ cH hI (c7 ⟨#[91,93]⟩ (by decide +kernel) (iR S1) (by simp)) fun v I' S2 w'=>?_
  rintro ⟨rfl,cs,rfl,hcs⟩ hE2 hI
  refine Run.call0E s6 s3 hI (p8 (hu.monoT hE2.1) hcs (by omega)) fun v I' S3 w'=>?_
  rintro ⟨rfl,ds,rfl,hds⟩ hE3 hI
  refine dJ (a:=n) (b:=1) rfl rfl (by omega) ?_
  obtain ⟨kv,rfl,_,_,_,a,k,rfl,_⟩:=RdT.iff.1 hds
  refine av hI 0 rfl ac rfl rfl (by simp [Value.oneCell']) fun w' hI=>?_
  refine bl hI 0 ac rfl rfl ?_
  exact ⟨_,[],S3,rfl,hI.nil,(hE1.trans hE2).trans hE3,rfl,_,rfl,hds⟩
 ·rw [h3]
  refine aw (fun hb=>by cases hb) (fun _=>?_)
  refine dJ (a:=n) (b:=1) rfl rfl (by omega) ?_
  have hle2:=(fF g).1 _ _ _ _ _ _ h4
  refine Run.call0E eT eR hI (hR s (n+1) d 3 x m S1 h4 hs (by omega) hd (by omega)) fun v I' S2 w'=>?_
  rintro ⟨rfl,cs,rfl,hcs⟩ hE2 hI
  obtain ⟨kv,rfl,_,_,_,a,k,rfl,_⟩:=RdT.iff.1 hcs
  refine al (v:=.agg _) rfl ?_
  refine al (v:=.int .i64 (m:Int)) rfl ?_
  refine aM hI aU fun b10 w' hI=>?_
  refine av hI 1 rfl ac rfl rfl (by simp [Value.oneCell']) fun w' hI=>?_
  refine dG (by omega) ?_
  refine aw (fun hb=>by cases hb) (fun _=>?_)
  refine Run.callPure bZ bY hI (bL s m 93 S2) fun w' hI=>?_
  refine bK ?_
  rw [h5]
  refine aw (fun hb=>by cases hb) (fun _=>?_)
  refine aA hI 1 ac rfl rfl ?_
  refine Run.call0E s6 s3 hI (p8 (hu.monoT hE2.1) hcs (by omega)) fun v I' S3 w'=>?_
  rintro ⟨rfl,ds,rfl,hds⟩ hE3 hI
  refine dJ (a:=m) (b:=1) rfl rfl (by omega) ?_
  obtain ⟨kv,rfl,_,_,_,a,k,rfl,_⟩:=RdT.iff.1 hds
  refine av hI 0 rfl ac rfl rfl (by simp [Value.oneCell']) fun w' hI=>?_
  refine bl hI 0 ac rfl rfl ?_
  exact ⟨_,[],S3,rfl,hI.nil,(hE1.trans hE2).trans hE3,rfl,_,rfl,hds⟩
theorem Dv {n:Bs} (h:n.length<=6):(st n).size<=maxLen:=by rw [jR]; simp only [maxLen]; omega
theorem Lo {f:Nat} (ihR:∀ g,g<f->n8 g) (ihT:∀ g,g<f->si g):CV f:=by
 intro s i d t n S h hs hi hd w hI
 cases f with
 | zero=>simp [ru] at h
 | succ g=>
 have hR:=ihR g (by omega)
 have hT:=ihT g (by omega)
 have hle:=(fF (g+1)).2.2.1 _ _ _ _ _ h
 rw [ru] at h
 split at h
 ·cases h
 rename_i h0
 have hd0:1<=d:=by omega
 have hlt:i<s.length:=by omega
 refine s8.2 ?_
 dsimp only[s8,fe]
 refine aM hI aU fun b6 w' hI=>?_
 have hI:Inv w [] [.blk b6 (.cells #[.int .i64 0,.int .i64 0,.string ⟨#[]⟩,.slice none 0 0] ab)] S w':=hI
 refine ⟨fun b w'=>b=.bool false/\Inv w [] [.blk b6 (.cells #[.int .i64 0,.int .i64 0,.string ⟨#[]⟩,.slice none 0 0] ab)] S w',?_,?_⟩
 ·refine dG (by omega) ?_
  refine rpG ?_
  refine ed aF ?_
  refine ut (by omega) ?_
  refine rpG ?_
  exact ⟨rfl,hI⟩
 intro t23 _ _ _ _ _ _ _ w'
 rintro ⟨rfl,hI⟩
 refine aw (fun hb=>by cases hb) (fun _=>?_)
 refine dk aF hlt ?_
 split at h
 ·rename_i h40
  rw [jf hlt,decide_eq_true_eq] at h40
  refine eC (by omega) ?_
  refine aw (fun _=>?_) (fun hb=>by cases hb)
  split at h
  ·cases h
  rename_i u m hr
  split at h
  ·rename_i h41
   simp only [Option.some.injEq,Prod.mk.injEq] at h
   obtain ⟨rfl,rfl⟩:=h
   have hle2:=(fF g).1 _ _ _ _ _ _ hr
   refine dJ (a:=i) (b:=1) rfl rfl (by omega) ?_
   refine Run.call0E eT eR hI (hR s (i+1) d 3 u m S hr hs (by omega) hd (by omega)) fun v I' S2 w'=>?_
   rintro ⟨rfl,cs,rfl,hcs⟩ hE2 hI
   obtain ⟨kv,rfl,_,_,_,a,k,rfl,_⟩:=RdT.iff.1 hcs
   refine al (v:=.agg _) rfl ?_
   refine al (v:=.int .i64 (m:Int)) rfl ?_
   refine aM hI aU fun b8 w' hI=>?_
   refine av hI 1 rfl ac rfl rfl (by simp [Value.oneCell']) fun w' hI=>?_
   refine dG (by omega) ?_
   refine aw (fun hb=>by cases hb) (fun _=>?_)
   refine Run.callPure bZ bY hI (bL s m 41 S2) fun w' hI=>?_
   refine bK ?_
   rw [h41]
   refine aw (fun hb=>by cases hb) (fun _=>?_)
   refine aA hI 1 ac rfl rfl ?_
   refine dJ (a:=m) (b:=1) rfl rfl (by omega) ?_
   refine av hI 0 rfl ac rfl rfl (by simp [Value.oneCell']) fun w' hI=>?_
   refine bl hI 0 ac rfl rfl ?_
   exact ⟨_,[],S2,rfl,hI.nil,hE2,rfl,_,rfl,hcs⟩
  ·cases h
 rename_i h40
 rw [jf hlt,decide_eq_true_eq] at h40
 refine du (by omega) ?_
 refine aw (fun hb=>by cases hb) (fun _=>?_)
 refine ⟨fun b w'=>b=.bool (sgn s i 91 && !sgn s (i+1) 93)/\Inv w [] [.blk b6 (.cells #[.int .i64 0,.int .i64 0,.string ⟨#[]⟩,.slice none 0 0] ab)] S w',?_,?_⟩
 ·refine dk aF hlt ?_
  by_cases h91:s[i].toNat=91
  ·refine eC (by omega) ?_
   refine rpG ?_
   refine dJ (a:=i) (b:=1) rfl rfl (by omega) ?_
   refine Run.callPure bZ bY hI (bL s (i+1) 93 S) fun w' hI=>?_
   refine bK ?_
   refine rpG ?_
   exact ⟨by rw [jf hlt,decide_eq_true h91,Bool.true_and],hI⟩
  ·refine du (by omega) ?_
   refine rpG ?_
   exact ⟨by rw [jf hlt,decide_eq_false h91,Bool.false_and],hI⟩
 intro t65 _ _ _ _ _ _ _ _ _ _ w'
 rintro ⟨rfl,hI⟩
 split at h
 ·rename_i h91
  rw [h91.1,h91.2]
  refine aw (fun _=>?_) (fun hb=>by cases hb)
  split at h
  ·cases h
  rename_i ts m hts
  have h2:(sgn s m 93=true/\t=gO ts PI/\n=m+1) ∨ (sgn s m 93=false/\∃ u k,hH g s (m+1) (d - 1) 3=some (u,k)/\sgn s k 93=true/\t=gO ts u/\n=k+1):=by
   split at h
   ·rename_i h3
    simp only [Option.some.injEq,Prod.mk.injEq] at h
    exact .inl ⟨h3,h.1.symm,h.2.symm⟩
   ·rename_i h3
    split at h
    ·cases h
    rename_i u k hr
    split at h
    ·rename_i h4
     simp only [Option.some.injEq,Prod.mk.injEq] at h
     exact .inr ⟨Bool.eq_false_iff.2 h3,u,k,hr,h4,h.1.symm,h.2.symm⟩
    ·cases h
  refine dJ (a:=i) (b:=1) rfl rfl (by omega) ?_
  refine zW (a:=d) (b:=1) rfl rfl hd0 (by omega) ?_
  refine Run.call0E Eo Dl hI (Ga hT hR hts h2 hs (by omega) (by omega) S) fun v I' S2 w'=>?_
  rintro ⟨rfl,cs,rfl,hcs⟩ hE2 hI
  obtain ⟨kv,rfl,_,_,_,a,k,rfl,_⟩:=RdT.iff.1 hcs
  refine al (v:=.agg _) rfl ?_
  refine al (v:=.int .i64 (n:Int)) rfl ?_
  refine av hI 0 rfl ac rfl rfl (by simp [Value.oneCell']) fun w' hI=>?_
  refine bl hI 0 ac rfl rfl ?_
  exact ⟨_,[],S2,rfl,hI.nil,hE2,rfl,_,rfl,hcs⟩
 rename_i h91
 have e91:(sgn s i 91 && !sgn s (i+1) 93)=false:=by
  cases h5:sgn s i 91
  ·rfl
  ·cases h6:sgn s (i+1) 93
   ·exact absurd ⟨h5,h6⟩ h91
   ·rfl
 rw [e91]
 refine aw (fun hb=>by cases hb) (fun _=>?_)
 refine ⟨fun b w'=>b=.bool (upp s i)/\Inv w [] [.blk b6 (.cells #[.int .i64 0,.int .i64 0,.string ⟨#[]⟩,.slice none 0 0] ab)] S w',?_,?_⟩
 ·refine dk aF hlt ?_
  by_cases h65:65<=s[i].toNat
  ·refine ml (by omega) ?_
   refine rpG ?_
   refine dk aF hlt ?_
   refine dO ?_
   refine rpG ?_
   refine ⟨?_,hI⟩
   rw [upp,lY hlt,decide_eq_true h65,Bool.true_and]
   congr 1
   rw [decide_eq_decide]
   omega
  ·refine ut (by omega) ?_
   refine rpG ?_
   exact ⟨by rw [upp,lY hlt,decide_eq_false h65,Bool.false_and],hI⟩
 intro t83 _ _ _ _ _ _ _ _ _ w'
 rintro ⟨rfl,hI⟩
 split at h
 ·rename_i hup
  simp only [Option.some.injEq,Prod.mk.injEq] at h
  obtain ⟨rfl,rfl⟩:=h
  rw [hup]
  rw [upp,lY hlt,Bool.and_eq_true,decide_eq_true_eq,decide_eq_true_eq] at hup
  refine aw (fun _=>?_) (fun hb=>by cases hb)
  refine dk aF hlt ?_
  refine Mw (c:=(s[i].toNat:Int) - 65) (IntWalk.u8_in _ (by omega)) ?_
  refine n9 eL fl (IntWalk.i64_in _ (by omega)) ?_
  refine Run.callPure Ag z1 hI (qC _ S) fun w' hI=>?_
  refine dJ (a:=i) (b:=1) rfl rfl (by omega) ?_
  refine av hI 0 rfl ac rfl rfl (by simp [Value.oneCell']) fun w' hI=>?_
  refine bl hI 0 ac rfl rfl ?_
  have eg:((s.getD i 0).toNat:Int) - 65=(s[i].toNat:Int) - 65:=by rw [List.getD_eq_getElem?_getD,List.getElem?_eq_getElem hlt]; rfl
  rw [eg]
  exact ⟨_,[],S,rfl,hI.nil,Ext.refl _ _ _,rfl,_,rfl,RdT.nil (by simp [inI]) (by unfold inI; omega) (by decide +kernel) (Nat.zero_le _)⟩
 rename_i hup
 rw [Bool.eq_false_iff.2 hup]
 refine aw (fun hb=>by cases hb) (fun _=>?_)
 refine ⟨fun b w'=>b=.bool (dig s i || (sgn s i 45 && dig s (i+1)))/\Inv w [] [.blk b6 (.cells #[.int .i64 0,.int .i64 0,.string ⟨#[]⟩,.slice none 0 0] ab)] S w',?_,?_⟩
 ·refine Run.callPure iK iO hI (fB s i S) fun w' hI=>?_
  cases hdi:dig s i
  ·refine rpG ?_
   refine dk aF hlt ?_
   by_cases h45:s[i].toNat=45
   ·refine eC (by omega) ?_
    refine rpG ?_
    refine dJ (a:=i) (b:=1) rfl rfl (by omega) ?_
    refine Run.callPure iK iO hI (fB s (i+1) S) fun w' hI=>?_
    refine rpG ?_
    exact ⟨by rw [jf hlt,decide_eq_true h45,Bool.true_and,Bool.false_or],hI⟩
   ·refine du (by omega) ?_
    refine rpG ?_
    exact ⟨by rw [jf hlt,decide_eq_false h45,Bool.false_and,Bool.false_or],hI⟩
  ·refine rpG ?_
   exact ⟨by rw [Bool.true_or],hI⟩
 intro t106 _ _ _ _ _ _ _ _ _ _ _ _ _ _ w'
 rintro ⟨rfl,hI⟩
 split at h
 ·rename_i hdg
  have:(dig s i || (sgn s i 45 && dig s (i+1)))=true:=by rw [Bool.or_eq_true,Bool.and_eq_true]; exact hdg
  rw [this]
  refine aw (fun _=>?_) (fun hb=>by cases hb)
  obtain ⟨k,hk,rfl,_,_,hnum⟩:=ye h (by omega) S
  refine Run.callPure Av Bb hI hnum fun w' hI=>?_
  refine al (v:=CK 2 k) rfl ?_
  refine al (v:=.int .i64 (n:Int)) rfl ?_
  refine aM hI aU fun b10 w' hI=>?_
  refine av hI 1 rfl ac rfl rfl (by simp [Value.oneCell']) fun w' hI=>?_
  refine dG (by omega) ?_
  refine aw (fun hb=>by cases hb) (fun _=>?_)
  refine aA hI 1 ac rfl rfl ?_
  refine av hI 0 rfl ac rfl rfl (by simp [Value.oneCell']) fun w' hI=>?_
  refine bl hI 0 ac rfl rfl ?_
  exact ⟨_,[],S,rfl,hI.nil,Ext.refl _ _ _,rfl,_,rfl,RdT.nil (by simp [inI]) hk (by decide +kernel) (Nat.zero_le _)⟩
 rename_i hdg
 have:(dig s i || (sgn s i 45 && dig s (i+1)))=false:=by
  rw [Bool.eq_false_iff,ne_eq,Bool.or_eq_true,Bool.and_eq_true]; exact hdg
 rw [this]
 refine aw (fun hb=>by cases hb) (fun _=>?_)
 refine Run.callPure wg wb hI (rN hlt hs S) fun w' hI=>?_
 cases hnm:rZ s i with
 | none=>rw [hnm] at h; cases h
 | some q=>
 obtain ⟨name,m⟩:=q
 rw [hnm] at h
 simp only [] at h
 simp only [Jw]
 have hnl:=td hlt hnm
 refine al (v:=.string (st name)) rfl ?_
 refine al (v:=.int .i64 (m:Int)) rfl ?_
 refine dG (by omega) ?_
 refine aw (fun hb=>by cases hb) (fun _=>?_)
 refine Run.callPure bZ bY hI (bL s m 40 S) fun w' hI=>?_
 refine bK ?_
 split at h
 ·rename_i h40'
  simp only [Option.some.injEq,Prod.mk.injEq] at h
  obtain ⟨rfl,rfl⟩:=h
  rw [h40']
  refine aw (fun _=>?_) (fun hb=>by cases hb)
  refine Run.call0E cJ cH hI (c7 (st name) (Dv hnl.2.2.1) (iR S) (by simp)) fun v I' S2 w'=>?_
  rintro ⟨rfl,cs,rfl,hcs⟩ hE2 hI
  obtain ⟨kv,rfl,_,_,_,a,k,rfl,_⟩:=RdT.iff.1 hcs
  refine av hI 0 rfl ac rfl rfl (by simp [Value.oneCell']) fun w' hI=>?_
  refine bl hI 0 ac rfl rfl ?_
  exact ⟨_,[],S2,rfl,hI.nil,hE2,rfl,_,rfl,hcs⟩
 ·rename_i h40'
  rw [Bool.not_eq_false] at h40'
  rw [h40']
  refine aw (fun hb=>by cases hb) (fun _=>?_)
  split at h
  ·cases h
  rename_i ts k hts
  simp only [Option.some.injEq,Prod.mk.injEq] at h
  obtain ⟨rfl,rfl⟩:=h
  have hm:=fV h40'
  have hle2:=(fF g).2.2.2 _ _ _ _ _ _ _ _ hts
  refine dJ (a:=m) (b:=1) rfl rfl (by omega) ?_
  refine zW (a:=d) (b:=1) rfl rfl hd0 (by omega) ?_
  refine Run.call0E s9 sR hI (hT s (m+1) (d - 1) 41 41 ts k S hts hs (by omega) (by omega)) fun v I' S2 w'=>?_
  rintro ⟨rfl,u,rfl,hu⟩ hE2 hI
  refine al (v:=u) rfl ?_
  refine al (v:=.int .i64 (k:Int)) rfl ?_
  refine dG (by omega) ?_
  refine aw (fun hb=>by cases hb) (fun _=>?_)
  obtain ⟨a,c,rfl,_⟩:=id hu
  refine qi ⟨_,_,_,rfl⟩ ?_
  refine dJ (a:=k) (b:=1) rfl rfl (by omega) ?_
  refine av hI 0 rfl ac rfl rfl (by simp [Value.oneCell']) fun w' hI=>?_
  refine bl hI 0 ac rfl rfl ?_
  exact ⟨_,[],S2,rfl,hI.nil,hE2,rfl,_,rfl,RdT.iff.2 ⟨_,rfl,by simp [inI,T.kind,FS],by simp [inI,T.n,FS],Dv hnl.2.2.1,hu⟩⟩
theorem MY {f:Nat} (ihR:∀ g,g<f->n8 g) (ihP:∀ g,g<f->CV g):n8 f:=by
 intro s i d l t n S h hs hi hd hl w hI
 cases f with
 | zero=>simp [hH] at h
 | succ f=>
 refine wI.2 ?_
 dsimp only[wI,iB]
 refine aM hI aU fun b8 w' hI=>?_
 have hI:Inv w [] [.blk b8 (.cells #[.int .i64 0,.int .i64 0,.string ⟨#[]⟩,.slice none 0 0] ab)] S w':=hI
 cases l with
 | zero=>
  rw [hH] at h
  refine eC rfl ?_
  refine aw (fun _=>?_) (fun hb=>by cases hb)
  refine Run.call0E Ds CY hI (ihP f (by omega) s i d t n S h hs hi hd) fun v I' S2 w'=>?_
  rintro ⟨rfl,cs,rfl,hcs⟩ hE2 hI
  obtain ⟨kv,rfl,_,_,_,a,k,rfl,_⟩:=RdT.iff.1 hcs
  refine al (v:=.agg _) rfl ?_
  refine al (v:=.int .i64 (n:Int)) rfl ?_
  refine av hI 0 rfl ac rfl rfl (by simp [Value.oneCell']) fun w' hI=>?_
  refine bl hI 0 ac rfl rfl ?_
  exact ⟨_,[],S2,rfl,hI.nil,hE2,rfl,_,rfl,hcs⟩
 | succ l=>
  rw [hH] at h
  split at h
  ·cases h
  rename_i t0 n0 hr
  have hle:=(fF f).1 _ _ _ _ _ _ hr
  refine du (by omega) ?_
  refine aw (fun hb=>by cases hb) (fun _=>?_)
  refine zW (a:=l+1) (b:=1) rfl rfl (by omega) (by omega) ?_
  rw [Nat.add_sub_cancel]
  refine Run.call0E eT eR hI (ihR f (by omega) s i d l t0 n0 S hr hs hi hd (by omega)) fun v I' S1 w'=>?_
  rintro ⟨rfl,cs,rfl,hcs⟩ hE1 hI
  obtain ⟨kv,rfl,_,_,_,a,k,rfl,_⟩:=RdT.iff.1 hcs
  refine al (v:=.agg _) rfl ?_
  refine al (v:=.int .i64 (n0:Int)) rfl ?_
  refine aM hI aU fun b10 w' hI=>?_
  refine av hI 1 rfl ac rfl rfl (by simp [Value.oneCell']) fun w' hI=>?_
  refine ⟨fun a w'=>∃ (f' n':Nat) (t':T) (ds:List Value) (S1:ad),f'<=f/\a=.int .i64 (n':Int)/\n'<=s.length/\EV f' s n' d l t'=some (t,n)/\Ext w.heap.size [] S S1/\RdT S1 ds t'/\Inv w [] [.blk b8 (.cells #[.int .i64 0,.int .i64 0,.string ⟨#[]⟩,.slice none 0 0] ab),.blk b10 (.cells ds.toArray ab)] S1 w',
   fun a _=>s.length+1 - (intOf a).toNat,⟨f,n0,t0,_,S1,Nat.le_refl _,rfl,hle.2,h,hE1,hcs,hI⟩,?_⟩
  clear h hE1 hcs hI hr hle
  intro _ _ _ _ t11 _ _ _ _ _ _ _ _ _ _ _ _ _ _ _ _ _ _ _ _ _ _ _ _ _ _ _ _ _ _ _ _ _ _ _ _ _ _ _ _ _ _ w'
  rintro ⟨f',n',t',ds,S1,hf',rfl,hn',ho,hE,hds,hI⟩
  obtain ⟨kd,rfl,_,_,hts',da,dm,rfl,_⟩:=RdT.iff.1 hds
  cases f' with
  | zero=>simp [EV] at ho
  | succ g=>
  rw [EV] at ho
  refine ml (by omega) ?_
  refine aw (fun _=>?_) (fun hb=>by cases hb)
  refine Run.callPure KA KO hI (Hv hs hn' S1) fun w' hI=>?_
  cases hop:opF s n' with
  | none=>
   rw [hop] at ho
   simp only [Option.some.injEq,Prod.mk.injEq] at ho
   obtain ⟨rfl,rfl⟩:=ho
   simp only [opV]
   refine al (v:=.string ⟨#[]⟩) rfl ?_
   refine al (v:=.int .i64 (n':Int)) rfl ?_
   refine ⟨fun b w'=>b=.bool true/\Inv w [] [.blk b8 (.cells #[.int .i64 0,.int .i64 0,.string ⟨#[]⟩,.slice none 0 0] ab),.blk b10 (.cells #[.int .i64 t'.kind,.int .i64 t'.n,.string t'.name,.slice da t'.kids.length dm] ab)] S1 w',?_,?_⟩
   ·refine bg ?_
    rw [decide_eq_true rfl]
    refine rpG ?_
    exact ⟨rfl,hI⟩
   intro t48 _ _ _ _ _ _ _ w'
   rintro ⟨rfl,hI⟩
   refine aw (fun _=>?_) (fun hb=>by cases hb)
   refine aA hI 1 ac rfl rfl ?_
   refine av hI 0 rfl ac rfl rfl (by simp [Value.oneCell']) fun w' hI=>?_
   refine bl hI 0 ac rfl rfl ?_
   exact ⟨_,[],S1,rfl,hI.nil,hE,rfl,_,rfl,hds⟩
  | some q=>
   obtain ⟨name,after⟩:=q
   rw [hop] at ho
   simp only [] at ho
   simp only [opV]
   have hol:=LI hop
   refine al (v:=.string (st name)) rfl ?_
   refine al (v:=.int .i64 (after:Int)) rfl ?_
   refine ⟨fun b w'=>b=.bool (!decide (bD (st name)=((l+1:Nat):Int)))/\Inv w [] [.blk b8 (.cells #[.int .i64 0,.int .i64 0,.string ⟨#[]⟩,.slice none 0 0] ab),.blk b10 (.cells #[.int .i64 t'.kind,.int .i64 t'.n,.string t'.name,.slice da t'.kids.length dm] ab)] S1 w',?_,?_⟩
   ·refine yR (b:=[]) ?_
    rw [decide_eq_false hol.2.2.2]
    refine rpG ?_
    refine Run.callPure eh ew hI (c5 _ S1) fun w' hI=>?_
    refine fP ?_
    refine rpG ?_
    exact ⟨rfl,hI⟩
   intro t48 _ _ _ _ _ _ _ w'
   rintro ⟨rfl,hI⟩
   split at ho
   ·rename_i hlv
    rw [decide_eq_true hlv]
    refine aw (fun hb=>by cases hb) (fun _=>?_)
    split at ho
    ·cases ho
    rename_i r e hr
    have hle:=(fF g).1 _ _ _ _ _ _ hr
    refine zW (a:=l+1) (b:=1) rfl rfl (by omega) (by omega) ?_
    rw [Nat.add_sub_cancel]
    refine Run.call0E eT eR hI (ihR g (by omega) s after d l r e S1 hr hs (by omega) hd (by omega)) fun v I' S2 w'=>?_
    rintro ⟨rfl,es,rfl,hes⟩ hE2 hI
    obtain ⟨ke,rfl,_,_,_,ea,em,rfl,_⟩:=RdT.iff.1 hes
    refine al (v:=.agg _) rfl ?_
    refine al (v:=.int .i64 (e:Int)) rfl ?_
    refine aM hI aU fun b14 w' hI=>?_
    refine av hI 2 rfl ac rfl rfl (by simp [Value.oneCell']) fun w' hI=>?_
    refine dG (by omega) ?_
    refine aw (fun hb=>by cases hb) (fun _=>?_)
    refine aA hI 1 ac rfl rfl ?_
    refine aA hI 2 ac rfl rfl ?_
    refine qV (v:=fun b=>.slice (some ⟨b,0,none⟩) 2 2) (o:=.cells #[.int .i64 t'.kind,.int .i64 t'.n,.string t'.name,.slice da t'.kids.length dm,.int .i64 r.kind,.int .i64 r.n,.string r.name,.slice ea r.kids.length em] ab) hI (by kernel_rfl) fun b20 w' hI=>?_
    obtain ⟨S3,hI,hE3,hS3⟩:=Inv.pub1 (A:=[_,_,_]) hI
    have hks:=Hz hS3 (RdT.mono (hE2.1.trans hE3.1) hds) (RdT.mono hE3.1 hes)
    refine Run.call0E cJ cH hI (c7 (st name) (Dv hol.2.2.1) hks (by simp)) fun v I' S4 w'=>?_
    rintro ⟨rfl,gs,rfl,hgs⟩ hE4 hI
    obtain ⟨kg,rfl,_,_,_,ga,gm,rfl,_⟩:=RdT.iff.1 hgs
    have hE':=((hE.trans hE2).trans hE3).trans hE4
    refine av hI 1 rfl ac rfl rfl (by simp [Value.oneCell']) fun w' hI=>?_
    split at ho
    ·rename_i hl2
     subst hl2
     simp only [Option.some.injEq,Prod.mk.injEq] at ho
     obtain ⟨rfl,rfl⟩:=ho
     refine eC rfl ?_
     refine aw (fun _=>?_) (fun hb=>by cases hb)
     refine aA hI 1 ac rfl rfl ?_
     refine av hI 0 rfl ac rfl rfl (by simp [Value.oneCell']) fun w' hI=>?_
     refine bl hI 0 ac rfl rfl ?_
     exact ⟨_,[],S4,rfl,hI.nil,hE',rfl,_,rfl,hgs⟩
    ·refine du (by omega) ?_
     refine aw (fun hb=>by cases hb) (fun _=>?_)
     refine ⟨⟨g,e,_,_,S4,by omega,rfl,hle.2,ho,hE',hgs,hI.pick [true,true,false]⟩,?_⟩
     simp only [intOf,Int.toNat_natCast]
     omega
   ·rename_i hlv
    rw [decide_eq_false hlv]
    simp only [Option.some.injEq,Prod.mk.injEq] at ho
    obtain ⟨rfl,rfl⟩:=ho
    refine aw (fun _=>?_) (fun hb=>by cases hb)
    refine aA hI 1 ac rfl rfl ?_
    refine av hI 0 rfl ac rfl rfl (by simp [Value.oneCell']) fun w' hI=>?_
    refine bl hI 0 ac rfl rfl ?_
    exact ⟨_,[],S1,rfl,hI.nil,hE,rfl,_,rfl,hds⟩
theorem K0:∀ F f,f<F->n8 f/\CV f/\si f
 | 0,f,h=>by omega
 | F+1,f,h=>by
  have ih:=K0 F
  have hR:n8 f:=MY (fun g hg=>(ih g (by omega)).1) (fun g hg=>(ih g (by omega)).2.1)
  have hT:si f:=MK fun g hg=>(ih g (by omega)).1
  exact ⟨hR,Lo (fun g hg=>(ih g (by omega)).1) (fun g hg=>(ih g (by omega)).2.2),hT⟩
theorem Cq (f:Nat):n8 f:=(K0 (f+1) f (by omega)).1
end
end
section
open Go Go.RowKit

def jy (cs:List Value) (n:Nat):Prop:=cs=[.int .u8 (n:Int)]/\n<256
abbrev rdI (br:Nat) (sl:Value) (p:Nat):Item:=.blk br (.cells #[sl,.int .i64 (p:Int)] GE)
abbrev rdP (br:Nat):Value:=.pointer (some ⟨br,0,none⟩)
section
variable {P:Program} {w:World} {K:Value->World->Prop}
theorem Hp {T:TypeId} {cx cy:Bool} {x y:Int} {a b:Nat} (hx:x=a) (hy:y=b) (hb:0<b) (hk:K (.int .i64 ((a % b:Nat):Int)) w):Run P (bN .rem T cx cy (.int .i64 x) (.int .i64 y)) w K:=by
 subst hx hy
 exact HT hb hk
theorem H1 {T:TypeId} {cx cy:Bool} {x y:Int} {a b:Nat} (hx:x=a) (hy:y=b) (hb:0<b) (ha:a<=9223372036854775807) (hk:K (.int .i64 ((a / b:Nat):Int)) w):Run P (bN .quo T cx cy (.int .i64 x) (.int .i64 y)) w K:=by
 subst hx hy
 exact Pr hb ha hk
theorem Pv {T:TypeId} {cx cy:Bool} {x y:Int} {a b:Nat} (hx:x=a) (hy:y=b) (ha:a<4611686018427387904) (hb:b<4611686018427387904) (hk:K (.int .i64 ((a ^^^ b:Nat):Int)) w):Run P (bN .xor T cx cy (.int .i64 x) (.int .i64 y)) w K:=by
 subst hx hy
 exact Pw ha hb hk
end
theorem RdSl.u8 {S:ad} {sl:Value} {ys:List Nat} (h:RdSl S 1 jy sl ys) (h0:0<ys.length):∃ b o cap c E fz,sl=.slice (some ⟨b,o,none⟩) ys.length cap/\S b=some (.cells c E fz)/\
  ∀ i,i<ys.length->∃ y:Nat,c[o+i * 1]?=some (.int .u8 (y:Int))/\y<256:=by
 obtain ⟨a,cap,rfl,hl,hc,h⟩:=h
 rcases h with rfl|⟨b,o,c,E,fz,rfl,hS,hR⟩
 ·simp at h0
 ·refine ⟨b,o,cap,c,E,fz,rfl,hS,fun i hi=>?_⟩
  obtain ⟨h1,h2⟩:=hR i hi
  exact ⟨ys[i],aO h1 0 _ rfl,h2⟩
section
attribute [local irreducible] Run CondV ai az
abbrev QB (S:ad) (br:Nat) (sl:Value) (p n:Nat):Value->List Item->ad->Prop:=fun v I' S'=>S'=S/\I'=[rdI br sl (p+1)]/\∃ k:Nat,k<n/\v=.int .i64 (k:Int)
theorem cA {ys:List Nat} {S:ad} {sl:Value} {br p n:Nat} (h:RdSl S 1 jy sl ys) (hp:p<=1000000000000) (hn:0<n):Tri Tryz.prog yk [rdP br,.int .i64 (n:Int)] [rdI br sl p] S (QB S br sl p n):=by
 intro w hI
 refine mH.2 ?_
 dsimp only[mH,aX]
 obtain ⟨X,hX⟩:∃ X,X=bk [rdI br sl p]:=⟨_,rfl⟩
 rw [<- hX] at hI ⊢
 have hsl:∃ a m cap,sl=.slice a m cap/\m=ys.length:=by
  obtain ⟨a,cap,e,_⟩:=h
  exact ⟨a,_,cap,e,rfl⟩
 refine ao ?_
 refine aB pf ?_
 refine aS hI 0 aE rfl rfl ?_
 refine bq (by omega) ?_
 refine ao ?_
 refine aB pf ?_
 refine cw hI 0 (n:=1) rfl (by decide +kernel) rfl (by simp) (by simp [Value.cells,Value.oneCell']) fun w' hI=>?_
 have hI:Inv w X [rdI br sl (p+1)] S w':=hI
 have hN:∃ N:Nat,N=ys.length:=⟨_,rfl⟩
 refine ⟨fun t w'=>t=.bool (decide (ys.length=0))/\Inv w X [rdI br sl (p+1)] S w',?_,?_⟩
 ·refine dG (by omega) ?_
  refine ID (fun _=>?_) (fun hb=>by simp at hb)
  refine ao ?_
  refine aB dU ?_
  refine aS hI 0 fG rfl rfl ?_
  refine aG h cM ?_
  refine aZ ?_
  refine rb ?_
  refine ⟨?_,hI⟩
  simp
 intro t24 _ _ _ _ _ _ _ _ _ w'
 rintro ⟨rfl,hI⟩
 refine aI (fun _=>⟨_,_,_,rfl,hI,Ext.refl _ _ _,rfl,rfl,0,hn,rfl⟩) (fun h0=>?_)
 have h0:0<ys.length:=by omega
 obtain ⟨b,o,cap,c,E,fz,rfl,hS,hc⟩:=h.u8 h0
 refine ao ?_
 refine aB pf ?_
 refine aS hI 0 aE rfl rfl ?_
 refine iw (by omega) ?_
 have ep:((p+1:Nat):Int) - 1=(p:Int):=by omega
 rw [ep]
 refine ao ?_
 refine aB dU ?_
 refine aS hI 0 fG rfl rfl ?_
 refine ez cM ?_
 refine bI ?_
 refine aI (fun hlt=>?_) (fun _=>?_)
 ·have hlt':p<ys.length:=by omega
  obtain ⟨y,hy,hy2⟩:=hc p hlt'
  refine ao ?_
  refine aB dU ?_
  refine aS hI 0 fG rfl rfl ?_
  refine aH cM hlt' ?_
  refine bX Ak ((hI.cellS hS).trans hy) ?_
  refine n9 eL fl (IntWalk.i64_in _ (by omega)) ?_
  refine HT hn ?_
  exact ⟨_,_,_,rfl,hI,Ext.refl _ _ _,rfl,rfl,y % n,Nat.mod_lt _ hn,rfl⟩
 ·obtain ⟨i1,hd1⟩:∃ i1,i1=p % ys.length:=⟨_,rfl⟩
  obtain ⟨i2,hd2⟩:∃ i2,i2=(p * 7+3) % ys.length:=⟨_,rfl⟩
  obtain ⟨q,hdq⟩:∃ q,q=p / ys.length:=⟨_,rfl⟩
  have hi1:i1<ys.length:=by rw [hd1]; exact Nat.mod_lt _ h0
  have hi2:i2<ys.length:=by rw [hd2]; exact Nat.mod_lt _ h0
  have hq:q<=p:=by rw [hdq]; exact Nat.div_le_self ..
  obtain ⟨y1,hv1,hy1⟩:=hc i1 hi1
  obtain ⟨y2,hv2,hy2⟩:=hc i2 hi2
  skip
  refine ⟨fun D x6 OL OY OB OQ OR Oz OK OM LS OA Mi Mt OV OT Ox OW Qg Rg QZ Rq PZ Q7 RU RT RR RS LH MW CH yP yz xV yc xZ yE yK Cl Co BS BR BK Cn yQ yG uK w_=>Fx D 0 [uK=.pointer (some ⟨br,0,none⟩),yG=.pointer (some ⟨br,0,none⟩),yQ=.pointer (some ⟨br,0,none⟩),Cn=.slice (some ⟨b,o,none⟩) ys.length cap,BK=.int .i64 (p:Int),BR=.pointer (some ⟨br,0,none⟩),BS=.pointer (some ⟨br,0,none⟩),Co=.pointer (some ⟨br,0,none⟩),Cl=.slice (some ⟨b,o,none⟩) ys.length cap,yK=.int .i64 (ys.length:Int),yE=.int .i64 (((i1:Nat):Int)),xZ=.pointer (some ⟨b,o+i1 * 1,none⟩),yc=.int .u8 ((y1:Nat):Int),xV=.int .i64 (((y1:Nat):Int)),yz=.int .i64 ((((y1:Nat):Int) * 131)),yP=.pointer (some ⟨br,0,none⟩),CH=.pointer (some ⟨br,0,none⟩),MW=.pointer (some ⟨br,0,none⟩),LH=.slice (some ⟨b,o,none⟩) ys.length cap,RS=.int .i64 (p:Int),RR=.int .i64 (((p:Int) * 7)),RT=.int .i64 ((((p:Int) * 7)+3)),RU=.pointer (some ⟨br,0,none⟩),Q7=.pointer (some ⟨br,0,none⟩),PZ=.pointer (some ⟨br,0,none⟩),Rq=.slice (some ⟨b,o,none⟩) ys.length cap,QZ=.int .i64 (ys.length:Int),Rg=.int .i64 (((i2:Nat):Int)),Qg=.pointer (some ⟨b,o+i2 * 1,none⟩),OW=.int .u8 ((y2:Nat):Int),Ox=.int .i64 (((y2:Nat):Int)),OT=.int .i64 ((((y2:Nat):Int) * 1117)),OV=.int .i64 (((((y1:Nat):Int) * 131)+(((y2:Nat):Int) * 1117))),Mt=.int .i64 (p:Int),Mi=.int .i64 (((p:Int) * 29)),OA=.int .i64 ((((((y1:Nat):Int) * 131)+(((y2:Nat):Int) * 1117))+((p:Int) * 29))),LS=.int .i64 (p:Int),OM=.pointer (some ⟨br,0,none⟩),OK=.pointer (some ⟨br,0,none⟩),Oz=.pointer (some ⟨br,0,none⟩),OR=.slice (some ⟨b,o,none⟩) ys.length cap,OQ=.int .i64 (ys.length:Int),OB=.int .i64 (((q:Nat):Int)),OY=.int .i64 ((((q:Nat):Int) * 53)),OL=.int .i64 (((((((y1:Nat):Int) * 131)+(((y2:Nat):Int) * 1117))+((p:Int) * 29))+(((q:Nat):Int) * 53))),x6=.int .i64 (((((((y1:Nat):Int) * 131)+(((y2:Nat):Int) * 1117))+((p:Int) * 29))+(((q:Nat):Int) * 53)))]/\Inv w X [rdI br (.slice (some ⟨b,o,none⟩) ys.length cap) (p+1)] S w_,⟨Fx.nil _ _,hI.draw⟩,⟨?_,?_,?_,?_,?_,?_,?_,?_,?_,?_,?_,?_,?_,?_,?_,?_,?_,?_,?_,?_,?_,?_,?_,?_,?_,?_,?_,?_,?_,?_,?_,?_,?_,?_,?_,?_,?_,?_,?_,?_,?_,?_,?_,?_,?_,?_,trivial⟩,?_⟩
  all_goals (intro D bx; intros; rename_i x6 OL OY OB OQ OR Oz OK OM LS OA Mi Mt OV OT Ox OW Qg Rg QZ Rq PZ Q7 RU RT RR RS LH MW CH yP yz xV yc xZ yE yK Cl Co BS BR BK Cn yQ yG uK w_ hA_; have hF_:=hA_.1; obtain ⟨⟨cr,cq,ct,cu,cz,cB,bP,cT,dw,fc,cE,cY,dS,fQ,gx,ir,jD,l6,pS,ic,rL,tU,sO,uM,FY,Ri,PW,Qc,Q6,P7,Re,Qb,QH,QF,QM,P8,Rr,Rj,Rf,Qd,QP,Ry,Rm,Ru,Rk,RM,_⟩,hI⟩:=hA_)
  ·exact ⟨hF_.set 0 rfl,hI⟩
  ·obtain rfl:=cr ‹_›
   refine ao ?_
   exact ⟨hF_.set 1 rfl,hI⟩
  ·obtain rfl:=cq ‹_›
   refine aB dU ?_
   exact ⟨hF_.set 2 rfl,hI⟩
  ·obtain rfl:=ct ‹_›
   refine aS hI 0 fG rfl rfl ?_
   exact ⟨hF_.set 3 rfl,hI⟩
  ·exact ⟨hF_.set 4 rfl,hI⟩
  ·exact ⟨hF_.set 5 rfl,hI⟩
  ·obtain rfl:=cB ‹_›
   refine ao ?_
   exact ⟨hF_.set 6 rfl,hI⟩
  ·obtain rfl:=bP ‹_›
   refine aB dU ?_
   exact ⟨hF_.set 7 rfl,hI⟩
  ·obtain rfl:=cT ‹_›
   refine aS hI 0 fG rfl rfl ?_
   exact ⟨hF_.set 8 rfl,hI⟩
  ·obtain rfl:=dw ‹_›
   refine ez cM ?_
   exact ⟨hF_.set 9 rfl,hI⟩
  ·obtain rfl:=cz ‹_›
   obtain rfl:=fc ‹_›
   refine Hp (a:=p) (b:=ys.length) (by omega) rfl h0 ?_; rw [<- hd1]
   exact ⟨hF_.set 10 rfl,hI⟩
  ·obtain rfl:=cu ‹_›
   obtain rfl:=cE ‹_›
   refine aH cM hi1 ?_
   exact ⟨hF_.set 11 rfl,hI⟩
  ·obtain rfl:=cY ‹_›
   refine bX Ak ((hI.cellS hS).trans hv1) ?_
   exact ⟨hF_.set 12 rfl,hI⟩
  ·obtain rfl:=dS ‹_›
   refine n9 eL fl (IntWalk.i64_in _ (by omega)) ?_
   exact ⟨hF_.set 13 rfl,hI⟩
  ·obtain rfl:=fQ ‹_›
   refine Aq (by omega) ?_
   exact ⟨hF_.set 14 rfl,hI⟩
  ·exact ⟨hF_.set 15 rfl,hI⟩
  ·obtain rfl:=ir ‹_›
   refine ao ?_
   exact ⟨hF_.set 16 rfl,hI⟩
  ·obtain rfl:=jD ‹_›
   refine aB dU ?_
   exact ⟨hF_.set 17 rfl,hI⟩
  ·obtain rfl:=l6 ‹_›
   refine aS hI 0 fG rfl rfl ?_
   exact ⟨hF_.set 18 rfl,hI⟩
  ·exact ⟨hF_.set 19 rfl,hI⟩
  ·obtain rfl:=ic ‹_›
   refine Aq (by omega) ?_
   exact ⟨hF_.set 20 rfl,hI⟩
  ·obtain rfl:=rL ‹_›
   refine bq (by omega) ?_
   exact ⟨hF_.set 21 rfl,hI⟩
  ·exact ⟨hF_.set 22 rfl,hI⟩
  ·obtain rfl:=sO ‹_›
   refine ao ?_
   exact ⟨hF_.set 23 rfl,hI⟩
  ·obtain rfl:=uM ‹_›
   refine aB dU ?_
   exact ⟨hF_.set 24 rfl,hI⟩
  ·obtain rfl:=FY ‹_›
   refine aS hI 0 fG rfl rfl ?_
   exact ⟨hF_.set 25 rfl,hI⟩
  ·obtain rfl:=Ri ‹_›
   refine ez cM ?_
   exact ⟨hF_.set 26 rfl,hI⟩
  ·obtain rfl:=tU ‹_›
   obtain rfl:=PW ‹_›
   refine Hp (a:=p * 7+3) (b:=ys.length) (by omega) rfl h0 ?_; rw [<- hd2]
   exact ⟨hF_.set 27 rfl,hI⟩
  ·obtain rfl:=pS ‹_›
   obtain rfl:=Qc ‹_›
   refine aH cM hi2 ?_
   exact ⟨hF_.set 28 rfl,hI⟩
  ·obtain rfl:=Q6 ‹_›
   refine bX Ak ((hI.cellS hS).trans hv2) ?_
   exact ⟨hF_.set 29 rfl,hI⟩
  ·obtain rfl:=P7 ‹_›
   refine n9 eL fl (IntWalk.i64_in _ (by omega)) ?_
   exact ⟨hF_.set 30 rfl,hI⟩
  ·obtain rfl:=Re ‹_›
   refine Aq (by omega) ?_
   exact ⟨hF_.set 31 rfl,hI⟩
  ·obtain rfl:=gx ‹_›
   obtain rfl:=Qb ‹_›
   refine bq (by omega) ?_
   exact ⟨hF_.set 32 rfl,hI⟩
  ·exact ⟨hF_.set 33 rfl,hI⟩
  ·obtain rfl:=QF ‹_›
   refine Aq (by omega) ?_
   exact ⟨hF_.set 34 rfl,hI⟩
  ·obtain rfl:=QH ‹_›
   obtain rfl:=QM ‹_›
   refine bq (by omega) ?_
   exact ⟨hF_.set 35 rfl,hI⟩
  ·exact ⟨hF_.set 36 rfl,hI⟩
  ·exact ⟨hF_.set 37 rfl,hI⟩
  ·obtain rfl:=Rj ‹_›
   refine ao ?_
   exact ⟨hF_.set 38 rfl,hI⟩
  ·obtain rfl:=Rf ‹_›
   refine aB dU ?_
   exact ⟨hF_.set 39 rfl,hI⟩
  ·obtain rfl:=Qd ‹_›
   refine aS hI 0 fG rfl rfl ?_
   exact ⟨hF_.set 40 rfl,hI⟩
  ·obtain rfl:=QP ‹_›
   refine ez cM ?_
   exact ⟨hF_.set 41 rfl,hI⟩
  ·obtain rfl:=Rr ‹_›
   obtain rfl:=Ry ‹_›
   refine H1 (a:=p) (b:=ys.length) rfl rfl h0 (by omega) ?_; rw [<- hdq]
   exact ⟨hF_.set 42 rfl,hI⟩
  ·obtain rfl:=Rm ‹_›
   refine Aq (by omega) ?_
   exact ⟨hF_.set 43 rfl,hI⟩
  ·obtain rfl:=P8 ‹_›
   obtain rfl:=Ru ‹_›
   refine bq (by omega) ?_
   exact ⟨hF_.set 44 rfl,hI⟩
  ·obtain rfl:=Rk ‹_›
   exact ⟨hF_.set 45 rfl,hI⟩
  obtain ⟨rfl,rfl,rfl,rfl,rfl,rfl,rfl,rfl,rfl,rfl,rfl,rfl,rfl,rfl,rfl,rfl,rfl,rfl,rfl,rfl,rfl,rfl,rfl,rfl,rfl,rfl,rfl,rfl,rfl,rfl,rfl,rfl,rfl,rfl,rfl,rfl,rfl,rfl,rfl,rfl,rfl,rfl,rfl,rfl,rfl,rfl,_⟩:=hF_.all
  clear hF_ cr cq ct cu cz cB bP cT dw fc cE cY dS fQ gx ir jD l6 pS ic rL tU sO uM FY Ri PW Qc Q6 P7 Re Qb QH QF QM P8 Rr Rj Rf Qd QP Ry Rm Ru Rk RM
  obtain ⟨x,hx⟩:∃ x:Nat,((((((y1:Nat):Int) * 131)+(((y2:Nat):Int) * 1117))+((p:Int) * 29))+(((q:Nat):Int) * 53))=(x:Int):=⟨(((((((y1:Nat):Int) * 131)+(((y2:Nat):Int) * 1117))+((p:Int) * 29))+(((q:Nat):Int) * 53))).toNat,by omega⟩
  have hx2:x<=10000000000000000:=by omega
  rw [hx]
  refine H1 (a:=x) (b:=64) rfl rfl (by omega) (by omega) ?_
  refine Pv (a:=x) (b:=x / 64) rfl rfl (by omega) (by omega) ?_
  refine HT hn ?_
  exact ⟨_,_,_,rfl,hI,Ext.refl _ _ _,rfl,rfl,_,Nat.mod_lt _ hn,rfl⟩
theorem iZ {ys:List Nat} {ns:List Int} {S:ad} {sl v:Value} {br p:Nat} (h:RdSl S 1 jy sl ys) (hv:RdSl S 1 lb v ns) (h0:0<ns.length) (hp:p<=1000000000000) :
  Tri Tryz.prog Bi [rdP br,v] [rdI br sl p] S fun r I' S'=>S'=S/\I'=[rdI br sl (p+1)]/\∃ n∈ns,r=.int .i64 n:=by
 intro w hI
 refine pr.2 ?_
 dsimp only[pr,aX]
 refine aG hv de ?_
 refine Run.call (A:=[]) bz bA hI (cA h hp h0) fun v' I' S' w'=>?_
 rintro ⟨rfl,rfl,k,hk,rfl⟩ _ hI
 obtain ⟨b,o,cap,c,E,fz,rfl,hS,hR⟩:=hv.at_ hk
 refine aH de hk ?_
 refine bX aE ((hI.cellS hS).trans (aO hR 0 _ rfl)) ?_
 exact ⟨_,_,_,rfl,hI,Ext.refl _ _ _,rfl,rfl,_,List.getElem_mem hk,rfl⟩
theorem sL {ys:List Nat} {ns:List ByteArray} {S:ad} {sl v:Value} {br p:Nat} (h:RdSl S 1 jy sl ys) (hv:RdSl S 1 qh v ns) (h0:0<ns.length) (hp:p<=1000000000000) :
  Tri Tryz.prog C0 [rdP br,v] [rdI br sl p] S fun r I' S'=>S'=S/\I'=[rdI br sl (p+1)]/\∃ n∈ns,r=.string n:=by
 intro w hI
 refine qk.2 ?_
 dsimp only[qk,aX]
 refine aG hv bF ?_
 refine Run.call (A:=[]) bz bA hI (cA h hp h0) fun v' I' S' w'=>?_
 rintro ⟨rfl,rfl,k,hk,rfl⟩ _ hI
 obtain ⟨b,o,cap,c,E,fz,rfl,hS,hR⟩:=hv.at_ hk
 refine aH bF hk ?_
 refine bX aL ((hI.cellS hS).trans (aO hR 0 _ rfl)) ?_
 exact ⟨_,_,_,rfl,hI,Ext.refl _ _ _,rfl,rfl,_,List.getElem_mem hk,rfl⟩
theorem Is {ys:List Nat} {S:ad} {v:Value} (h:RdSl S 1 jy v ys) :
  Tri Tryz.prog Gt [v] [] S fun r I' S'=>S'=S/\∃ br sl ys',r=rdP br/\I'=[rdI br sl 0]/\RdSl S 1 jy sl ys':=by
 intro w hI
 refine sN.2 ?_
 dsimp only[sN,aD]
 refine ⟨fun t w'=>(∃ ys',RdSl S 1 jy t ys')/\Inv w [] [] S w',?_,?_⟩
 ·refine aG h cM ?_
  refine dB ?_
  refine aI (fun hgt=>?_) (fun _=>⟨⟨_,h⟩,hI⟩)
  obtain ⟨a,cap,rfl,hl,hc,hh⟩:=id h
  refine u6 (h:=2000) cM (by omega) ?_
  exact ⟨⟨_,RdSl.to h (by omega)⟩,hI⟩
 intro t0 _ _ _ _ _ w'
 rintro ⟨⟨ys',hr⟩,hI⟩
 obtain ⟨a,cap,rfl,_⟩:=id hr
 refine Run.of (v:=.agg #[.slice a ys'.length cap,.int .i64 0]) (w':=w') ?_ ?_
 ·unfold bJ
  rw [Sem.run_bind,run_build w' GE _ #[.slice a ys'.length cap,.int .i64 0] (by kernel_rfl),Result.andThen_ok]
  rfl
 refine bt hI fun br w' hI=>?_
 exact ⟨_,_,_,rfl,hI,Ext.refl _ _ _,rfl,br,_,ys',rfl,rfl,hr⟩
end
end
end Go.Proofs.YtgllldjiaglkcaaGreatDoor
