/- Texts read: spec.l1Struct, l1Chain, l2Read, l2Prime, l2Terms, l2Items. (printed by gen_read.py) -/
import Derived.Test.YtcpgagfdeflbkaaGreatDoorZMv8
import Derived.Test.YtcpgagfdeflbkaaGreatDoorZMv5
namespace Go.Proofs.YtcpgagfdeflbkaaGreatDoor
open Go Go.RowKit
theorem Mg {s:Bs} {i e:Nat} {t:T} (hn:Lb s i=some (t,e)):i<e/\e<=s.length:=by
 unfold Lb at hn
 obtain ⟨fr,hfr⟩:∃ fr,fr=if sgn s i 45=true then i+1 else i:=⟨_,rfl⟩
 simp only [<- hfr] at hn
 have hle:=Cg s 4 fr
 have hfi:i<=fr/\fr<=i+1:=by rw [hfr]; split <;> omega
 split at hn
 ·cases hn
 rename_i hc
 simp only [not_or] at hc
 simp only [Option.some.injEq,Prod.mk.injEq] at hn
 obtain ⟨_,rfl⟩:=hn
 have h2:fr<o8 s 4 fr:=by
  rcases Nat.lt_or_ge fr (o8 s 4 fr) with h|h
  ·exact h
  ·refine absurd ?_ hc.1
   rw [cut,List.drop_eq_nil_of_le]
   rw [List.length_take]
   omega
 have:=xz (rQ s 4 fr (o8 s 4 fr - 1) (by omega) (by omega))
 omega
theorem fg:∀ f:Nat,(∀ s i d l t n,gB f s i d l=some (t,n)->i<n/\n<=s.length)/\(∀ s i d l t0 t n,EP f s i d l t0=some (t,n)->i<=s.length->i<=n/\n<=s.length)/\
  (∀ s i d t n,p6 f s i d=some (t,n)->i<n/\n<=s.length)/\(∀ s i d e o acc ts n,fA f s i d e o acc=some (ts,n)->i<n/\n<s.length)
 | 0=>⟨fun s i d l t n h=>by simp [gB] at h,fun s i d l t0 t n h=>by simp [EP] at h,fun s i d t n h=>by simp [p6] at h,fun s i d e o acc ts n h=>by simp [fA] at h⟩
 | f+1=>by
  obtain ⟨h1,h2,h3,h4⟩:=fg f
  refine ⟨fun s i d l t n h=>?_,fun s i d l t0 t n h hi=>?_,fun s i d t n h=>?_,fun s i d e o acc ts n h=>?_⟩
  ·cases l with
   | zero=>rw [gB] at h; exact h3 _ _ _ _ _ h
   | succ l=>
    rw [gB] at h
    split at h
    ·cases h
    ·rename_i t' n' hr
     have a:=h1 _ _ _ _ _ _ hr
     have b:=h2 _ _ _ _ _ _ _ h a.2
     omega
  ·rw [EP] at h
   split at h
   ·simp only [Option.some.injEq,Prod.mk.injEq] at h
    omega
   ·rename_i name after ho
    have a:=Lh ho
    split at h
    ·split at h
     ·cases h
     ·rename_i r e hr
      have b:=h1 _ _ _ _ _ _ hr
      split at h
      ·simp only [Option.some.injEq,Prod.mk.injEq] at h
       omega
      ·have c:=h2 _ _ _ _ _ _ _ h b.2
       omega
    ·simp only [Option.some.injEq,Prod.mk.injEq] at h
     omega
  ·rw [p6] at h
   split at h
   ·cases h
   rename_i h0
   have h0:i<s.length:=by omega
   split at h
   ·split at h
    ·cases h
    ·rename_i t' n' hr
     have a:=h1 _ _ _ _ _ _ hr
     split at h
     ·rename_i hs
      have:=fH hs
      simp only [Option.some.injEq,Prod.mk.injEq] at h
      omega
     ·cases h
   ·split at h
    ·split at h
     ·cases h
     ·rename_i ts n' hr
      have a:=h4 _ _ _ _ _ _ _ _ hr
      split at h
      ·simp only [Option.some.injEq,Prod.mk.injEq] at h
       omega
      ·split at h
       ·cases h
       ·rename_i t' e hr2
        have b:=h1 _ _ _ _ _ _ hr2
        split at h
        ·rename_i hs
         have:=fH hs
         simp only [Option.some.injEq,Prod.mk.injEq] at h
         omega
        ·cases h
    ·split at h
     ·simp only [Option.some.injEq,Prod.mk.injEq] at h
      omega
     ·split at h
      ·exact Mg h
      ·split at h
       ·cases h
       ·rename_i name n' hn
        have a:=qN h0 hn
        split at h
        ·simp only [Option.some.injEq,Prod.mk.injEq] at h
         omega
        ·split at h
         ·cases h
         ·rename_i ts e hr
          have b:=h4 _ _ _ _ _ _ _ _ hr
          simp only [Option.some.injEq,Prod.mk.injEq] at h
          omega
  ·rw [fA] at h
   split at h
   ·cases h
   ·rename_i t' n' hr
    have a:=h1 _ _ _ _ _ _ hr
    split at h
    ·rename_i hs
     have hlt:n'<s.length:=hs.elim fH fH
     simp only [Option.some.injEq,Prod.mk.injEq] at h
     omega
    ·split at h
     ·have b:=h4 _ _ _ _ _ _ _ _ h
      omega
     ·cases h
abbrev Ph (t:T):Value->List Item->ad->Prop:=fun v I' S'=>I'=[]/\∃ cs,v=.agg cs.toArray/\RdT S' cs t
abbrev KR (t:T) (n:Nat):Value->List Item->ad->Prop:=fun v I' S'=>I'=[]/\∃ cs,v=.tuple #[.agg cs.toArray,.int .i64 (n:Int)]/\RdT S' cs t
abbrev MZ (ts:List T) (n:Nat):Value->List Item->ad->Prop:=fun v I' S'=>I'=[]/\∃ u,v=.tuple #[u,.int .i64 (n:Int)]/\RdSl S' 4 (RdT S') u ts
theorem gj (S:ad):RdSl S 4 (RdT S) (.slice none 0 0) []:=⟨none,0,rfl,Nat.le_refl _,Nat.zero_le _,.inl rfl⟩
theorem Hh {S:ad} {b:Nat} {E:TypeId} {a c:T} {k1 n1 k2 n2:Int} {s1 s2:ByteArray} {v1 v2:Value} (hS:S b=some (.cells #[.int .i64 k1,.int .i64 n1,.string s1,v1,.int .i64 k2,.int .i64 n2,.string s2,v2] E))
  (h1:RdT S [.int .i64 k1,.int .i64 n1,.string s1,v1] a) (h2:RdT S [.int .i64 k2,.int .i64 n2,.string s2,v2] c):RdSl S 4 (RdT S) (.slice (some ⟨b,0,none⟩) 2 2) [a,c]:=by
 refine ⟨_,2,rfl,Nat.le_refl _,by simp [maxLen],.inr ⟨b,0,_,E,(0,0),rfl,hS,fun i hi=>?_⟩⟩
 match i,hi with
 | 0,_=>exact h1
 | 1,_=>exact h2
section
variable {w w0:World} {X:List Nat} {L:List Item} {S:ad} {K:Value->World->Prop}
attribute [local irreducible] Run CondV ao aI
theorem dB {P:Program} {T:TypeId} {cx cy:Bool} {x y:Int} {a b:Nat} (hx:x=a) (hy:y=b) (hr:a+b<=1000000000000000) (hk:K (.int .i64 ((a+b:Nat):Int)) w):Run P (bN .add T cx cy (.int .i64 x) (.int .i64 y)) w K:=by
 subst hx hy
 refine bi (by omega) ?_
 rw [<- Int.natCast_add]
 exact hk
theorem xi {P:Program} {T:TypeId} {cx cy:Bool} {x y:Int} {a b:Nat} (hx:x=a) (hy:y=b) (hle:b<=a) (hr:a<=1000000000000000) (hk:K (.int .i64 ((a - b:Nat):Int)) w):Run P (bN .sub T cx cy (.int .i64 x) (.int .i64 y)) w K:=by
 subst hx hy
 refine jk (by omega) ?_
 rw [<- Int.ofNat_sub hle]
 exact hk
theorem px {s:ByteArray} {v:Value} (hv:∃ p n m,v=.slice p n m) (hk:K (.agg #[.int .i64 3,.int .i64 0,.string s,v]) w):Run Tryz.prog (bJ ab [(0,.int .i64 3),(2,.string s),(3,v)]) w K:=by
 obtain ⟨p,n,m,rfl⟩:=hv
 refine Run.of (v:=.agg #[.int .i64 3,.int .i64 0,.string s,.slice p n m]) (w':=w) ?_ hk
 unfold bJ
 rw [Sem.run_bind,run_build w ab _ #[.int .i64 3,.int .i64 0,.string s,.slice p n m] (by kernel_rfl),Result.andThen_ok]
 rfl
theorem rg (s:ByteArray) {ks:List T} {u:Value} (h:RdSl S 4 (RdT S) u ks) (hk:ks.length<=1000000):Tri Tryz.prog sI [.string s,u] [] S fun v I' S'=>S'=S/\∃ kv css,v=.agg #[.int .i64 3,.int .i64 0,.string s,kv]/\I'=[aB kv ab 4 css]/\Rows 4 (RdT S) css ks:=by
 intro w hI
 refine pu.2 ?_
 dsimp only[pu,aR]
 refine aL hI aW fun b4 w' hI=>?_
 refine di hI bo fun v0 w' hI=>?_
 have hI:Inv w [] [.blk b4 (.cells #[.int .i64 0,.int .i64 0,.string ⟨#[]⟩,.slice none 0 0] ab),aB v0 ab 4 []] S w':=hI
 refine pY hI 1 (css:=[]) bo (by omega) rfl h (fun _ _=>RdT.length) (fun _ _=>RdT.one) (by simp; omega) (by omega) fun v' w' css2 hR hI=>?_
 have hI:Inv w [] [.blk b4 (.cells #[.int .i64 0,.int .i64 0,.string ⟨#[]⟩,.slice none 0 0] ab),aB v' ab 4 css2] S w':=hI
 obtain ⟨a,n,c,rfl⟩:=hI.rowSlice 1 rfl
 refine px ⟨_,_,_,rfl⟩ ?_
 refine au hI 0 rfl ac rfl rfl (by simp [Value.oneCell']) fun w' hI=>?_
 refine be hI 0 ac rfl rfl ?_
 exact ⟨_,_,_,rfl,hI.sub (List.sublist_cons_self _ _),Ext.refl _ _ _,rfl,_,css2,rfl,rfl,hR⟩
theorem cT (s:ByteArray) (hs:s.size<=maxLen) {ks:List T} {u:Value} (h:RdSl S 4 (RdT S) u ks) (hk:ks.length<=1000000):Tri Tryz.prog sI [.string s,u] [] S (Ph (.mk 3 0 s ks)):=by
 intro w hI
 refine (rg s h hk w hI).mono ?_
 rintro e w' ⟨v,I',S',rfl,hI,hE,rfl,kv,css,rfl,rfl,hR⟩
 obtain ⟨S1,hE1,hrd,hI⟩:=Inv.lendExt (A:=[]) hI
 have hrs:=RowRd.rows (hR.monoR fun _ _ h=>RdT.mono hE1.1 h) hrd
 exact ⟨_,[],S1,rfl,hI,hE.trans hE1,rfl,[.int .i64 3,.int .i64 0,.string s,kv],rfl,RdT.iff.2 ⟨kv,rfl,by simp [inI,T.kind],by simp [inI,T.n],hs,hrs⟩⟩
theorem GY {ts:List T} {j:Nat} (h:j<ts.length) (t:T):gi (ts.drop j) t=EL ts[j] (gi (ts.drop (j+1)) t):=by
 rw [List.drop_eq_getElem_cons h,gi]
theorem pI {ts:List T} {t:T} {u:Value} {cs:List Value} (h:RdSl S 4 (RdT S) u ts) (ht:RdT S cs t) (hl:ts.length<=1000000):Tri Tryz.prog ER [u,.agg cs.toArray] [] S (Ph (gi ts t)):=by
 intro w hI
 obtain ⟨kv,rfl,g1,g2,g3,g4⟩:=RdT.iff.1 ht
 obtain ⟨ka,kn,kc,hkv⟩:∃ a n m,kv=.slice a n m:=by
  obtain ⟨a,m,e,_⟩:=g4
  exact ⟨_,_,_,e⟩
 refine sW.2 ?_
 dsimp only[sW,aR]
 refine bl hI fun b3 w' hI=>?_
 refine aL hI aW fun b4 w' hI=>?_
 refine aw hI 0 ac rfl rfl ?_
 refine aL hI aW fun b5 w' hI=>?_
 refine au hI 2 rfl ac rfl rfl (by simp [Value.oneCell',Value.cells,hkv]) fun w' hI=>?_
 refine aD h ag ?_
 refine jk (by omega) ?_
 obtain ⟨B3,hB3⟩:∃ B3,B3=Item.blk b3 (.cells #[.int .i64 t.kind,.int .i64 t.n,.string t.name,kv] ab):=⟨_,rfl⟩
 have hI:Inv w [] [B3,.blk b4 (.cells #[.int .i64 0,.int .i64 0,.string ⟨#[]⟩,.slice none 0 0] ab),.blk b5 (.cells #[.int .i64 t.kind,.int .i64 t.n,.string t.name,kv] ab)] S w':=by rw [hB3]; exact hI
 refine ⟨fun i w'=>∃ (j:Nat) (S1:ad) (ds:List Value),j<=ts.length/\i=.int .i64 ((j:Int) - 1)/\Ext w.heap.size [] S S1/\RdT S1 ds (gi (ts.drop j) t)/\Inv w [] [B3,.blk b4 (.cells #[.int .i64 0,.int .i64 0,.string ⟨#[]⟩,.slice none 0 0] ab),.blk b5 (.cells ds.toArray ab)] S1 w',
  fun i _=>(intOf i+1).toNat,⟨ts.length,S,_,Nat.le_refl _,rfl,Ext.refl _ _ _,by rw [List.drop_length]; exact ht,hI⟩,?_⟩
 intro t6 _ _ t21 t20 t19 t18 t17 t16 t15 _ _ w'
 rintro ⟨j,S1,ds,hj,rfl,hE,hds,hI⟩
 by_cases hj0:j=0
 ·subst hj0
  refine ux (by omega) ?_
  refine av (fun hb=>by cases hb) (fun _=>?_)
  obtain ⟨kv',rfl,_,_,_,a,m,rfl,_⟩:=RdT.iff.1 hds
  refine aw hI 2 ac rfl rfl ?_
  refine au hI 1 rfl ac rfl rfl (by simp [Value.oneCell']) fun w' hI=>?_
  refine be hI 1 ac rfl rfl ?_
  exact ⟨_,_,_,rfl,hI.nil,hE,rfl,_,rfl,hds⟩
 ·refine lX (by omega) ?_
  refine av (fun _=>?_) (fun hb=>by cases hb)
  obtain ⟨m,rfl⟩:∃ m,j=m+1:=⟨j - 1,by omega⟩
  have hm:m<ts.length:=by omega
  have ej:((m+1:Nat):Int) - 1=(m:Int):=by omega
  rw [ej]
  obtain ⟨b,o,cap,c,E,fz,rfl,hS,hR⟩:=(h.monoT hE.1).at_ hm
  obtain ⟨ka',hca,_,_,_,aa,am,hka',_⟩:=RdT.iff.1 hR
  subst hka'
  obtain ⟨kd,rfl,_,_,_,da,dm,rfl,_⟩:=RdT.iff.1 hds
  obtain ⟨o1,ho1⟩:∃ o1,o1=gi (ts.drop (m+1)) t:=⟨_,rfl⟩
  rw [<- ho1] at hds hI
  obtain ⟨a1,ha1⟩:∃ a1,a1=ts[m]:=⟨_,rfl⟩
  rw [<- ha1] at hR hca
  skip
  refine ⟨fun D pe mQ od AF mL xy EY w_=>Fx D 0 [EY=.slice (some ⟨b,o,none⟩) ts.length cap,xy=.int .i64 (m:Int),mL=.pointer (some ⟨b,o+m * 4,none⟩),AF=.agg #[.int .i64 a1.kind,.int .i64 a1.n,.string a1.name,.slice aa a1.kids.length am],od=.agg #[.int .i64 o1.kind,.int .i64 o1.n,.string o1.name,.slice da o1.kids.length dm],True,True,True]/\∃ S2 c6,Ext w.heap.size [] S1 S2/\(D 5=true->RdSl S2 4 (RdT S2) mQ [a1,o1])/\(D 6=true->pe=.agg c6.toArray/\RdT S2 c6 (EL a1 o1))/\(D 7=true->D 6=true)/\(D 6=true->D 5=true)/\(D 5=true->D 4=true)/\Inv w [] [B3,.blk b4 (.cells #[.int .i64 0,.int .i64 0,.string ⟨#[]⟩,.slice none 0 0] ab),.blk b5 (.cells (match D 7 with|true=>c6.toArray|false=>#[.int .i64 o1.kind,.int .i64 o1.n,.string o1.name,.slice da o1.kids.length dm]) ab)] S2 w_,⟨Fx.nil _ _,⟨S1,[],Ext.refl _ _ _,aM,aM,aM,aM,aM,hI.draw⟩⟩,⟨?_,?_,?_,?_,?_,?_,?_,?_,trivial⟩,?_⟩
  all_goals (intro D bv; intros; rename_i pe mQ od AF mL xy EY w_ hA_; have hF_:=hA_.1; obtain ⟨⟨ci,cd,cj,cc,cm,cr,bO,cR,_⟩,⟨S2,c6,hE2,e5,e6,k7,k6,k5,hI⟩⟩:=hA_)
  ·exact ⟨hF_.set 0 rfl,⟨S2,c6,hE2,e5,e6,k7,k6,k5,hI⟩⟩
  ·exact ⟨hF_.set 1 rfl,⟨S2,c6,hE2,e5,e6,k7,k6,k5,hI⟩⟩
  ·obtain rfl:=ci ‹_›
   obtain rfl:=cd ‹_›
   refine aE ag hm ?_
   exact ⟨hF_.set 2 rfl,⟨S2,c6,hE2,e5,e6,k7,k6,k5,hI⟩⟩
  ·obtain rfl:=cj ‹_›
   refine bK (cs:=[.int .i64 a1.kind,.int .i64 a1.n,.string a1.name,.slice aa a1.kids.length am]) ac rfl (fun j v hj=>by rw [hI.cellS (hE2.1 _ _ hS)]; exact aJ hca j v hj) ?_
   exact ⟨hF_.set 3 rfl,⟨S2,c6,hE2,e5,e6,k7,k6,k5,hI⟩⟩
  ·have f5:D 5=false:=Bool.eq_false_iff.2 fun h=>by rw [k5 h] at bv; cases bv
   have f6:D 6=false:=Bool.eq_false_iff.2 fun h=>by rw [k6 h] at f5; cases f5
   have f7:D 7=false:=Bool.eq_false_iff.2 fun h=>by rw [k7 h] at f6; cases f6
   have hI0:=hI
   rw [f7] at hI
   refine aw hI 2 ac rfl rfl ?_
   have hI:=hI0
   have k5:=fun (_:az D 4 5=true)=>(rfl:az D 4 4=true)
   exact ⟨hF_.set 4 rfl,⟨S2,c6,hE2,e5,e6,k7,k6,k5,hI⟩⟩
  ·obtain rfl:=cc ‹_›
   obtain rfl:=cm ‹_›
   have f6:D 6=false:=Bool.eq_false_iff.2 fun h=>by rw [k6 h] at bv; cases bv
   have f7:D 7=false:=Bool.eq_false_iff.2 fun h=>by rw [k7 h] at f6; cases f6
   rw [f7] at hI
   refine oF (v:=fun b=>.slice (some ⟨b,0,none⟩) 2 2) (o:=.cells #[.int .i64 a1.kind,.int .i64 a1.n,.string a1.name,.slice aa a1.kids.length am,.int .i64 o1.kind,.int .i64 o1.n,.string o1.name,.slice da o1.kids.length dm] ab) hI (by kernel_rfl) fun b20 w_ hI=>?_
   obtain ⟨S2,hI,hE3,hS3⟩:=Inv.pub1 (A:=[_,_,_]) hI
   have hE2:=hE2.trans hE3
   have hR':RdT S2 [.int .i64 a1.kind,.int .i64 a1.n,.string a1.name,.slice aa a1.kids.length am] a1:=by
    have:=RdT.mono hE2.1 hR
    rwa [hca] at this
   have e5:=fun (_:az D 5 5=true)=>Hh hS3 hR' (RdT.mono hE2.1 hds)
   have e6:=fun (h:D 6=true)=>(absurd h (by rw [f6]; decide):pe=.agg c6.toArray/\RdT S2 c6 (EL a1 o1))
   have k6:=fun (_:az D 5 6=true)=>(rfl:az D 5 5=true)
   have k5:=fun (_:az D 5 5=true)=>‹D 4=true›
   have hI:Inv w [] [B3,.blk b4 (.cells #[.int .i64 0,.int .i64 0,.string ⟨#[]⟩,.slice none 0 0] ab),.blk b5 (.cells (match D 7 with|true=>c6.toArray|false=>#[.int .i64 o1.kind,.int .i64 o1.n,.string o1.name,.slice da o1.kids.length dm]) ab)] S2 w_:=by
    rw [f7]
    exact hI
   exact ⟨hF_.set 5 (by first|assumption|trivial),⟨S2,c6,hE2,e5,e6,k7,k6,k5,hI⟩⟩
  ·have IZ:=cr ‹_›
   have f7:D 7=false:=Bool.eq_false_iff.2 fun h=>by rw [k7 h] at bv; cases bv
   rw [f7] at hI
   refine Run.call0E ct cu hI (cT ⟨#[46]⟩ (by decide +kernel) (e5 ‹D 5=true›) (by simp)) fun v' I' S2 w_=>?_
   rintro ⟨rfl,c6,rfl,hc6⟩ hE3 hI
   have hE2:=hE2.trans hE3
   have e5:=fun (h:D 5=true)=>(e5 h).monoT hE3.1
   have e6:az D 6 6=true->Value.agg c6.toArray=Value.agg c6.toArray/\RdT S2 c6 (EL a1 o1):=fun _=>⟨rfl,hc6⟩
   have k7:=fun (_:az D 6 7=true)=>(rfl:az D 6 6=true)
   have k6:=fun (_:az D 6 6=true)=>‹D 5=true›
   have hI:Inv w [] [B3,.blk b4 (.cells #[.int .i64 0,.int .i64 0,.string ⟨#[]⟩,.slice none 0 0] ab),.blk b5 (.cells (match D 7 with|true=>c6.toArray|false=>#[.int .i64 o1.kind,.int .i64 o1.n,.string o1.name,.slice da o1.kids.length dm]) ab)] S2 w_:=by
    rw [f7]
    exact hI
   exact ⟨hF_.set 6 (by first|assumption|trivial),⟨S2,c6,hE2,e5,e6,k7,k6,k5,hI⟩⟩
  ·have Jc:=bO ‹_›
   obtain ⟨q6,hc6⟩:=e6 ‹D 6=true›
   subst q6
   rw [bv] at hI
   have hone:=hc6.one
   have hlen:=hc6.length
   refine au hI 2 rfl ac (by simpa using hlen) rfl (by simpa using hone) fun w_ hI=>?_
   have k7:=fun (_:az D 7 7=true)=>‹D 6=true›
   exact ⟨hF_.set 7 trivial,⟨S2,c6,hE2,e5,e6,k7,k6,k5,hI⟩⟩
  obtain ⟨rfl,rfl,rfl,rfl,rfl,IZ,Jc,_,_⟩:=hF_.all
  have IB:D 6=true:=by assumption
  have Aa:D 7=true:=by assumption
  clear hF_ ci cd cj cc cm cr bO cR
  rw [Aa] at hI
  obtain ⟨_,hc6⟩:=e6 IB
  refine jk (by omega) ?_
  refine ⟨⟨m,S2,c6,by omega,rfl,hE.trans hE2,?_,hI⟩,by simp [intOf]⟩
  rw [GY hm,<- ha1,<- ho1]
  exact hc6
end
def ou (f:Nat):Prop:=∀ (s:Bs) (i d l:Nat) (t:T) (n:Nat) (S:ad),gB f s i d l=some (t,n)->s.length<=100000->i<=s.length->d<=100->l<=3->
 Tri Tryz.prog G0 [.string (st s),.int .i64 (i:Int),.int .i64 (d:Int),.int .i64 (l:Int)] [] S (KR t n)
def BE (f:Nat):Prop:=∀ (s:Bs) (i d:Nat) (t:T) (n:Nat) (S:ad),p6 f s i d=some (t,n)->s.length<=100000->i<=s.length->d<=100->
 Tri Tryz.prog Ed [.string (st s),.int .i64 (i:Int),.int .i64 (d:Int)] [] S (KR t n)
def rm (f:Nat):Prop:=∀ (s:Bs) (i d e o:Nat) (ts:List T) (n:Nat) (S:ad),fA f s i d e o []=some (ts,n)->s.length<=100000->i<=s.length->d<=100->
 Tri Tryz.prog Fw [.string (st s),.int .i64 (i:Int),.int .i64 (d:Int),.int .u8 (e:Int),.int .u8 (o:Int)] [] S (MZ ts n)
theorem Bu:∀ (f:Nat) (s:Bs) (i d e o:Nat) (acc ts:List T) (n:Nat),fA f s i d e o acc=some (ts,n)->ts.length+i<=acc.length+n
 | 0,s,i,d,e,o,acc,ts,n,h=>by simp [fA] at h
 | f+1,s,i,d,e,o,acc,ts,n,h=>by
  rw [fA] at h
  split at h
  ·cases h
  ·rename_i t' n' hr
   have a:=(fg f).1 _ _ _ _ _ _ hr
   split at h
   ·simp only [Option.some.injEq,Prod.mk.injEq] at h
    obtain ⟨rfl,rfl⟩:=h
    rw [List.length_append]
    simp only [List.length_cons,List.length_nil]
    omega
   ·split at h
    ·have b:=Bu f _ _ _ _ _ _ _ _ h
     rw [List.length_append] at b
     simp only [List.length_cons,List.length_nil] at b
     omega
    ·cases h
section
attribute [local irreducible] Run CondV ao aI
theorem JL {f:Nat} (ih:∀ g,g<f->ou g):rm f:=by
 intro s i d e o ts n S h hs hi hd w hI
 refine qL.2 ?_
 dsimp only[qL,Bq]
 refine di hI bo fun v0 w' hI=>?_
 refine ⟨fun a b w'=>∃ (f' i':Nat) (acc:List T) (S1:ad) (css:List (List Value)),f'<=f/\a=.int .i64 (i':Int)/\i<=i'/\i'<=s.length/\acc.length+i<=i'/\fA f' s i' d e o acc=some (ts,n)/\Ext w.heap.size [] S S1/\Rows 4 (RdT S1) css acc/\Inv w [] [aB b ab 4 css] S1 w',
  fun a _ _=>s.length+1 - (intOf a).toNat,⟨f,i,[],S,[],Nat.le_refl _,rfl,Nat.le_refl _,hi,by simp,h,Ext.refl _ _ _,Rows.nil _ _,hI⟩,?_⟩
 intro t1 _ _ _ _ _ _ _ _ _ _ _ _ _ _ _ _ _ _ _ _ t12 _ _ _ _ _ _ _ _ _ _ _ _ _ _ _ _ _ _ w'
 rintro ⟨f',i',acc,S1,css,hf',rfl,hi1,hi2,hacc,hT,hE,hR,hI⟩
 have hcl:=hR.hc
 cases f' with
 | zero=>simp [fA] at hT
 | succ g=>
 rw [fA] at hT
 split at hT
 ·cases hT
 rename_i t n' hr
 have hle:=(fg g).1 _ _ _ _ _ _ hr
 refine Run.call0E ef eF hI (ih g (by omega) s i' d 3 t n' S1 hr hs hi2 hd (by omega)) fun v I' S2 w'=>?_
 rintro ⟨rfl,cs,rfl,hcs⟩ hE2 hI
 have hR2:=hR.monoR fun _ _ h=>RdT.mono hE2.1 h
 obtain ⟨kv,rfl,_,_,_,a,m,rfl,_⟩:=RdT.iff.1 hcs
 refine ai (v:=.agg _) rfl ?_
 refine ai (v:=.int .i64 (n':Int)) rfl ?_
 refine aL hI aW fun b13 w' hI=>?_
 refine au hI 1 rfl ac rfl rfl (by simp [Value.oneCell']) fun w' hI=>?_
 refine dC (by omega) ?_
 refine av (fun hb=>by cases hb) (fun _=>?_)
 refine aw hI 1 ac rfl rfl ?_
 refine bP (css:=css) hI 0 _ bo (by omega) (by omega) rfl hcs.length hcs.one (by omega) (by omega) fun v' w' hI=>?_
 have hI:Inv w [] [aB v' ab 4 (css++[[.int .i64 t.kind,.int .i64 t.n,.string t.name,.slice a t.kids.length m]])] S2 w':=hI.pick [true,false]
 have hR3:=hR2.snoc hcs hcs.length
 refine ⟨fun b w'=>b=.bool (sgn s n' e || sgn s n' o)/\Inv w [] [aB v' ab 4 (css++[[.int .i64 t.kind,.int .i64 t.n,.string t.name,.slice a t.kids.length m]])] S2 w',?_,?_⟩
 ·refine Run.callPure bY b0 hI (bL s n' e S2) fun w' hI=>?_
  cases he:sgn s n' e
  ·refine rpG ?_
   refine Run.callPure bY b0 hI (bL s n' o S2) fun w' hI=>?_
   refine rpG ?_
   exact ⟨by simp,hI⟩
  ·refine rpG ?_
   exact ⟨by simp,hI⟩
 intro t39 _ _ _ _ _ _ _ _ _ w'
 rintro ⟨rfl,hI⟩
 refine av (fun hb=>?_) (fun hb=>?_)
 ·rw [Bool.or_eq_true] at hb
  rw [if_pos hb] at hT
  simp only [Option.some.injEq,Prod.mk.injEq] at hT
  obtain ⟨rfl,rfl⟩:=hT
  obtain ⟨S3,hE3,hrd,hI⟩:=Inv.lendExt (A:=[]) hI
  have hrs:=RowRd.rows (hR3.monoR fun _ _ h=>RdT.mono hE3.1 h) hrd
  exact ⟨_,[],S3,rfl,hI,(hE.trans hE2).trans hE3,rfl,_,rfl,hrs⟩
 ·have hb':¬ (sgn s n' e=true ∨ sgn s n' o=true):=fun h=>by rw [<- Bool.or_eq_true,hb] at h; cases h
  rw [if_neg hb'] at hT
  split at hT
  ·rename_i h44
   refine Run.callPure bY b0 hI (bL s n' 44 S2) fun w' hI=>?_
   refine bU ?_
   rw [h44]
   refine av (fun hb=>by cases hb) (fun _=>?_)
   have:=fH h44
   refine dB (a:=n') (b:=1) rfl rfl (by omega) ?_
   refine ⟨⟨g,n'+1,acc++[t],S2,css++[[.int .i64 t.kind,.int .i64 t.n,.string t.name,.slice a t.kids.length m]],by omega,rfl,by omega,by omega,?_,hT,hE.trans hE2,hR3,hI⟩,?_⟩
   ·rw [List.length_append]; simp only [List.length_cons,List.length_nil]; omega
   ·simp only [intOf,Int.toNat_natCast]; omega
  ·cases hT
theorem EO {g:Nat} (hT:rm g) (hR:ou g) {s:Bs} {i d:Nat} {ts:List T} {n:Nat} {t:T} {e:Nat} (h1:fA g s i d 93 124 []=some (ts,n))
  (h2:(sgn s n 93=true/\t=gi ts Nw/\e=n+1) ∨ (sgn s n 93=false/\∃ u m,gB g s (n+1) d 3=some (u,m)/\sgn s m 93=true/\t=gi ts u/\e=m+1))
  (hs:s.length<=100000) (hi:i<=s.length) (hd:d<=100) (S:ad):Tri Tryz.prog FP [.string (st s),.int .i64 (i:Int),.int .i64 (d:Int)] [] S (KR t e):=by
 intro w hI
 have hle:=(fg g).2.2.2 _ _ _ _ _ _ _ _ h1
 have hln:=Bu _ _ _ _ _ _ _ _ _ h1
 simp only [List.length_nil] at hln
 refine sk.2 ?_
 dsimp only[sk,ft]
 refine aL hI aW fun b6 w' hI=>?_
 refine Run.call0E ri r9 hI (hT s i d 93 124 ts n S h1 hs hi hd) fun v I' S1 w'=>?_
 rintro ⟨rfl,u,rfl,hu⟩ hE1 hI
 have hI:Inv w [] [.blk b6 (.cells #[.int .i64 0,.int .i64 0,.string ⟨#[]⟩,.slice none 0 0] ab)] S1 w':=hI
 refine ai (v:=u) rfl ?_
 refine ai (v:=.int .i64 (n:Int)) rfl ?_
 refine dC (by omega) ?_
 refine av (fun hb=>by cases hb) (fun _=>?_)
 refine Run.callPure bY b0 hI (bL s n 93 S1) fun w' hI=>?_
 rcases h2 with ⟨h3,rfl,rfl⟩|⟨h3,x,m,h4,h5,rfl,rfl⟩
 ·rw [h3]
  refine av (fun _=>?_) (fun hb=>by cases hb)
  refine Run.call0E ct cu hI (cT ⟨#[91,93]⟩ (by decide +kernel) (gj S1) (by simp)) fun v I' S2 w'=>?_
  rintro ⟨rfl,cs,rfl,hcs⟩ hE2 hI
  refine Run.call0E rx qI hI (pI (hu.monoT hE2.1) hcs (by omega)) fun v I' S3 w'=>?_
  rintro ⟨rfl,ds,rfl,hds⟩ hE3 hI
  refine dB (a:=n) (b:=1) rfl rfl (by omega) ?_
  obtain ⟨kv,rfl,_,_,_,a,k,rfl,_⟩:=RdT.iff.1 hds
  refine au hI 0 rfl ac rfl rfl (by simp [Value.oneCell']) fun w' hI=>?_
  refine be hI 0 ac rfl rfl ?_
  exact ⟨_,[],S3,rfl,hI.nil,(hE1.trans hE2).trans hE3,rfl,_,rfl,hds⟩
 ·rw [h3]
  refine av (fun hb=>by cases hb) (fun _=>?_)
  refine dB (a:=n) (b:=1) rfl rfl (by omega) ?_
  have hle2:=(fg g).1 _ _ _ _ _ _ h4
  refine Run.call0E ef eF hI (hR s (n+1) d 3 x m S1 h4 hs (by omega) hd (by omega)) fun v I' S2 w'=>?_
  rintro ⟨rfl,cs,rfl,hcs⟩ hE2 hI
  obtain ⟨kv,rfl,_,_,_,a,k,rfl,_⟩:=RdT.iff.1 hcs
  refine ai (v:=.agg _) rfl ?_
  refine ai (v:=.int .i64 (m:Int)) rfl ?_
  refine aL hI aW fun b10 w' hI=>?_
  refine au hI 1 rfl ac rfl rfl (by simp [Value.oneCell']) fun w' hI=>?_
  refine dC (by omega) ?_
  refine av (fun hb=>by cases hb) (fun _=>?_)
  refine Run.callPure bY b0 hI (bL s m 93 S2) fun w' hI=>?_
  refine bU ?_
  rw [h5]
  refine av (fun hb=>by cases hb) (fun _=>?_)
  refine aw hI 1 ac rfl rfl ?_
  refine Run.call0E rx qI hI (pI (hu.monoT hE2.1) hcs (by omega)) fun v I' S3 w'=>?_
  rintro ⟨rfl,ds,rfl,hds⟩ hE3 hI
  refine dB (a:=m) (b:=1) rfl rfl (by omega) ?_
  obtain ⟨kv,rfl,_,_,_,a,k,rfl,_⟩:=RdT.iff.1 hds
  refine au hI 0 rfl ac rfl rfl (by simp [Value.oneCell']) fun w' hI=>?_
  refine be hI 0 ac rfl rfl ?_
  exact ⟨_,[],S3,rfl,hI.nil,(hE1.trans hE2).trans hE3,rfl,_,rfl,hds⟩
theorem CM {n:Bs} (h:n.length<=6):(st n).size<=maxLen:=by rw [jg]; simp only [maxLen]; omega
theorem KQ {f:Nat} (ihR:∀ g,g<f->ou g) (ihT:∀ g,g<f->rm g):BE f:=by
 intro s i d t n S h hs hi hd w hI
 cases f with
 | zero=>simp [p6] at h
 | succ g=>
 have hR:=ihR g (by omega)
 have hT:=ihT g (by omega)
 have hle:=(fg (g+1)).2.2.1 _ _ _ _ _ h
 rw [p6] at h
 split at h
 ·cases h
 rename_i h0
 have hd0:1<=d:=by omega
 have hlt:i<s.length:=by omega
 refine rv.2 ?_
 dsimp only[rv,ft]
 refine aL hI aW fun b6 w' hI=>?_
 have hI:Inv w [] [.blk b6 (.cells #[.int .i64 0,.int .i64 0,.string ⟨#[]⟩,.slice none 0 0] ab)] S w':=hI
 refine ⟨fun b w'=>b=.bool false/\Inv w [] [.blk b6 (.cells #[.int .i64 0,.int .i64 0,.string ⟨#[]⟩,.slice none 0 0] ab)] S w',?_,?_⟩
 ·refine dC (by omega) ?_
  refine rpG ?_
  refine dS aG ?_
  refine ux (by omega) ?_
  refine rpG ?_
  exact ⟨rfl,hI⟩
 intro t23 _ _ _ _ _ _ _ w'
 rintro ⟨rfl,hI⟩
 refine av (fun hb=>by cases hb) (fun _=>?_)
 refine dj aG hlt ?_
 split at h
 ·rename_i h40
  rw [iq hlt,decide_eq_true_eq] at h40
  refine dA (by omega) ?_
  refine av (fun _=>?_) (fun hb=>by cases hb)
  split at h
  ·cases h
  rename_i u m hr
  split at h
  ·rename_i h41
   simp only [Option.some.injEq,Prod.mk.injEq] at h
   obtain ⟨rfl,rfl⟩:=h
   have hle2:=(fg g).1 _ _ _ _ _ _ hr
   refine dB (a:=i) (b:=1) rfl rfl (by omega) ?_
   refine Run.call0E ef eF hI (hR s (i+1) d 3 u m S hr hs (by omega) hd (by omega)) fun v I' S2 w'=>?_
   rintro ⟨rfl,cs,rfl,hcs⟩ hE2 hI
   obtain ⟨kv,rfl,_,_,_,a,k,rfl,_⟩:=RdT.iff.1 hcs
   refine ai (v:=.agg _) rfl ?_
   refine ai (v:=.int .i64 (m:Int)) rfl ?_
   refine aL hI aW fun b8 w' hI=>?_
   refine au hI 1 rfl ac rfl rfl (by simp [Value.oneCell']) fun w' hI=>?_
   refine dC (by omega) ?_
   refine av (fun hb=>by cases hb) (fun _=>?_)
   refine Run.callPure bY b0 hI (bL s m 41 S2) fun w' hI=>?_
   refine bU ?_
   rw [h41]
   refine av (fun hb=>by cases hb) (fun _=>?_)
   refine aw hI 1 ac rfl rfl ?_
   refine dB (a:=m) (b:=1) rfl rfl (by omega) ?_
   refine au hI 0 rfl ac rfl rfl (by simp [Value.oneCell']) fun w' hI=>?_
   refine be hI 0 ac rfl rfl ?_
   exact ⟨_,[],S2,rfl,hI.nil,hE2,rfl,_,rfl,hcs⟩
  ·cases h
 rename_i h40
 rw [iq hlt,decide_eq_true_eq] at h40
 refine dh (by omega) ?_
 refine av (fun hb=>by cases hb) (fun _=>?_)
 refine ⟨fun b w'=>b=.bool (sgn s i 91 && !sgn s (i+1) 93)/\Inv w [] [.blk b6 (.cells #[.int .i64 0,.int .i64 0,.string ⟨#[]⟩,.slice none 0 0] ab)] S w',?_,?_⟩
 ·refine dj aG hlt ?_
  by_cases h91:s[i].toNat=91
  ·refine dA (by omega) ?_
   refine rpG ?_
   refine dB (a:=i) (b:=1) rfl rfl (by omega) ?_
   refine Run.callPure bY b0 hI (bL s (i+1) 93 S) fun w' hI=>?_
   refine bU ?_
   refine rpG ?_
   exact ⟨by rw [iq hlt,decide_eq_true h91,Bool.true_and],hI⟩
  ·refine dh (by omega) ?_
   refine rpG ?_
   exact ⟨by rw [iq hlt,decide_eq_false h91,Bool.false_and],hI⟩
 intro t65 _ _ _ _ _ _ _ _ _ _ w'
 rintro ⟨rfl,hI⟩
 split at h
 ·rename_i h91
  rw [h91.1,h91.2]
  refine av (fun _=>?_) (fun hb=>by cases hb)
  split at h
  ·cases h
  rename_i ts m hts
  have h2:(sgn s m 93=true/\t=gi ts Nw/\n=m+1) ∨ (sgn s m 93=false/\∃ u k,gB g s (m+1) (d - 1) 3=some (u,k)/\sgn s k 93=true/\t=gi ts u/\n=k+1):=by
   split at h
   ·rename_i h3
    simp only [Option.some.injEq,Prod.mk.injEq] at h
    exact .inl ⟨h3,h.1.symm,h.2.symm⟩
   ·rename_i h3
    split at h
    ·cases h
    rename_i u k hr
    split at h
    ·rename_i h4
     simp only [Option.some.injEq,Prod.mk.injEq] at h
     exact .inr ⟨Bool.eq_false_iff.2 h3,u,k,hr,h4,h.1.symm,h.2.symm⟩
    ·cases h
  refine dB (a:=i) (b:=1) rfl rfl (by omega) ?_
  refine xi (a:=d) (b:=1) rfl rfl hd0 (by omega) ?_
  refine Run.call0E CZ Do hI (EO hT hR hts h2 hs (by omega) (by omega) S) fun v I' S2 w'=>?_
  rintro ⟨rfl,cs,rfl,hcs⟩ hE2 hI
  obtain ⟨kv,rfl,_,_,_,a,k,rfl,_⟩:=RdT.iff.1 hcs
  refine ai (v:=.agg _) rfl ?_
  refine ai (v:=.int .i64 (n:Int)) rfl ?_
  refine au hI 0 rfl ac rfl rfl (by simp [Value.oneCell']) fun w' hI=>?_
  refine be hI 0 ac rfl rfl ?_
  exact ⟨_,[],S2,rfl,hI.nil,hE2,rfl,_,rfl,hcs⟩
 rename_i h91
 have e91:(sgn s i 91 && !sgn s (i+1) 93)=false:=by
  cases h5:sgn s i 91
  ·rfl
  ·cases h6:sgn s (i+1) 93
   ·exact absurd ⟨h5,h6⟩ h91
   ·rfl
 rw [e91]
 refine av (fun hb=>by cases hb) (fun _=>?_)
 refine ⟨fun b w'=>b=.bool (upp s i)/\Inv w [] [.blk b6 (.cells #[.int .i64 0,.int .i64 0,.string ⟨#[]⟩,.slice none 0 0] ab)] S w',?_,?_⟩
 ·refine dj aG hlt ?_
  by_cases h65:65<=s[i].toNat
  ·refine lX (by omega) ?_
   refine rpG ?_
   refine dj aG hlt ?_
   refine dI ?_
   refine rpG ?_
   refine ⟨?_,hI⟩
   rw [upp,lO hlt,decide_eq_true h65,Bool.true_and]
   congr 1
   rw [decide_eq_decide]
   omega
  ·refine ux (by omega) ?_
   refine rpG ?_
   exact ⟨by rw [upp,lO hlt,decide_eq_false h65,Bool.false_and],hI⟩
 intro t83 _ _ _ _ _ _ _ _ _ w'
 rintro ⟨rfl,hI⟩
 split at h
 ·rename_i hup
  simp only [Option.some.injEq,Prod.mk.injEq] at h
  obtain ⟨rfl,rfl⟩:=h
  rw [hup]
  rw [upp,lO hlt,Bool.and_eq_true,decide_eq_true_eq,decide_eq_true_eq] at hup
  refine av (fun _=>?_) (fun hb=>by cases hb)
  refine dj aG hlt ?_
  refine Lq (c:=(s[i].toNat:Int) - 65) (IntWalk.u8_in _ (by omega)) ?_
  refine ob eq eQ (IntWalk.i64_in _ (by omega)) ?_
  refine Run.callPure ym yj hI (pH _ S) fun w' hI=>?_
  refine dB (a:=i) (b:=1) rfl rfl (by omega) ?_
  refine au hI 0 rfl ac rfl rfl (by simp [Value.oneCell']) fun w' hI=>?_
  refine be hI 0 ac rfl rfl ?_
  have eg:((s.getD i 0).toNat:Int) - 65=(s[i].toNat:Int) - 65:=by rw [List.getD_eq_getElem?_getD,List.getElem?_eq_getElem hlt]; rfl
  rw [eg]
  exact ⟨_,[],S,rfl,hI.nil,Ext.refl _ _ _,rfl,_,rfl,RdT.nil (by simp [inI]) (by unfold inI; omega) (by decide +kernel) (Nat.zero_le _)⟩
 rename_i hup
 rw [Bool.eq_false_iff.2 hup]
 refine av (fun hb=>by cases hb) (fun _=>?_)
 refine ⟨fun b w'=>b=.bool (dig s i || (sgn s i 45 && dig s (i+1)))/\Inv w [] [.blk b6 (.cells #[.int .i64 0,.int .i64 0,.string ⟨#[]⟩,.slice none 0 0] ab)] S w',?_,?_⟩
 ·refine Run.callPure hZ g6 hI (fh s i S) fun w' hI=>?_
  cases hdi:dig s i
  ·refine rpG ?_
   refine dj aG hlt ?_
   by_cases h45:s[i].toNat=45
   ·refine dA (by omega) ?_
    refine rpG ?_
    refine dB (a:=i) (b:=1) rfl rfl (by omega) ?_
    refine Run.callPure hZ g6 hI (fh s (i+1) S) fun w' hI=>?_
    refine rpG ?_
    exact ⟨by rw [iq hlt,decide_eq_true h45,Bool.true_and,Bool.false_or],hI⟩
   ·refine dh (by omega) ?_
    refine rpG ?_
    exact ⟨by rw [iq hlt,decide_eq_false h45,Bool.false_and,Bool.false_or],hI⟩
  ·refine rpG ?_
   exact ⟨by rw [Bool.true_or],hI⟩
 intro t106 _ _ _ _ _ _ _ _ _ _ _ _ _ _ w'
 rintro ⟨rfl,hI⟩
 split at h
 ·rename_i hdg
  have:(dig s i || (sgn s i 45 && dig s (i+1)))=true:=by rw [Bool.or_eq_true,Bool.and_eq_true]; exact hdg
  rw [this]
  refine av (fun _=>?_) (fun hb=>by cases hb)
  obtain ⟨k,hk,rfl,_,_,hnum⟩:=y4 h (by omega) S
  refine Run.callPure zY Ae hI hnum fun w' hI=>?_
  refine ai (v:=Bl 2 k) rfl ?_
  refine ai (v:=.int .i64 (n:Int)) rfl ?_
  refine aL hI aW fun b10 w' hI=>?_
  refine au hI 1 rfl ac rfl rfl (by simp [Value.oneCell']) fun w' hI=>?_
  refine dC (by omega) ?_
  refine av (fun hb=>by cases hb) (fun _=>?_)
  refine aw hI 1 ac rfl rfl ?_
  refine au hI 0 rfl ac rfl rfl (by simp [Value.oneCell']) fun w' hI=>?_
  refine be hI 0 ac rfl rfl ?_
  exact ⟨_,[],S,rfl,hI.nil,Ext.refl _ _ _,rfl,_,rfl,RdT.nil (by simp [inI]) hk (by decide +kernel) (Nat.zero_le _)⟩
 rename_i hdg
 have:(dig s i || (sgn s i 45 && dig s (i+1)))=false:=by
  rw [Bool.eq_false_iff,ne_eq,Bool.or_eq_true,Bool.and_eq_true]; exact hdg
 rw [this]
 refine av (fun hb=>by cases hb) (fun _=>?_)
 refine Run.callPure uz vJ hI (se hlt hs S) fun w' hI=>?_
 cases hnm:rU s i with
 | none=>rw [hnm] at h; cases h
 | some q=>
 obtain ⟨name,m⟩:=q
 rw [hnm] at h
 simp only [] at h
 simp only [Iy]
 have hnl:=qN hlt hnm
 refine ai (v:=.string (st name)) rfl ?_
 refine ai (v:=.int .i64 (m:Int)) rfl ?_
 refine dC (by omega) ?_
 refine av (fun hb=>by cases hb) (fun _=>?_)
 refine Run.callPure bY b0 hI (bL s m 40 S) fun w' hI=>?_
 refine bU ?_
 split at h
 ·rename_i h40'
  simp only [Option.some.injEq,Prod.mk.injEq] at h
  obtain ⟨rfl,rfl⟩:=h
  rw [h40']
  refine av (fun _=>?_) (fun hb=>by cases hb)
  refine Run.call0E ct cu hI (cT (st name) (CM hnl.2.2.1) (gj S) (by simp)) fun v I' S2 w'=>?_
  rintro ⟨rfl,cs,rfl,hcs⟩ hE2 hI
  obtain ⟨kv,rfl,_,_,_,a,k,rfl,_⟩:=RdT.iff.1 hcs
  refine au hI 0 rfl ac rfl rfl (by simp [Value.oneCell']) fun w' hI=>?_
  refine be hI 0 ac rfl rfl ?_
  exact ⟨_,[],S2,rfl,hI.nil,hE2,rfl,_,rfl,hcs⟩
 ·rename_i h40'
  rw [Bool.not_eq_false] at h40'
  rw [h40']
  refine av (fun hb=>by cases hb) (fun _=>?_)
  split at h
  ·cases h
  rename_i ts k hts
  simp only [Option.some.injEq,Prod.mk.injEq] at h
  obtain ⟨rfl,rfl⟩:=h
  have hm:=fH h40'
  have hle2:=(fg g).2.2.2 _ _ _ _ _ _ _ _ hts
  refine dB (a:=m) (b:=1) rfl rfl (by omega) ?_
  refine xi (a:=d) (b:=1) rfl rfl hd0 (by omega) ?_
  refine Run.call0E ri r9 hI (hT s (m+1) (d - 1) 41 41 ts k S hts hs (by omega) (by omega)) fun v I' S2 w'=>?_
  rintro ⟨rfl,u,rfl,hu⟩ hE2 hI
  refine ai (v:=u) rfl ?_
  refine ai (v:=.int .i64 (k:Int)) rfl ?_
  refine dC (by omega) ?_
  refine av (fun hb=>by cases hb) (fun _=>?_)
  obtain ⟨a,c,rfl,_⟩:=id hu
  refine px ⟨_,_,_,rfl⟩ ?_
  refine dB (a:=k) (b:=1) rfl rfl (by omega) ?_
  refine au hI 0 rfl ac rfl rfl (by simp [Value.oneCell']) fun w' hI=>?_
  refine be hI 0 ac rfl rfl ?_
  exact ⟨_,[],S2,rfl,hI.nil,hE2,rfl,_,rfl,RdT.iff.2 ⟨_,rfl,by simp [inI,T.kind,Fl],by simp [inI,T.n,Fl],CM hnl.2.2.1,hu⟩⟩
theorem MH {f:Nat} (ihR:∀ g,g<f->ou g) (ihP:∀ g,g<f->BE g):ou f:=by
 intro s i d l t n S h hs hi hd hl w hI
 cases f with
 | zero=>simp [gB] at h
 | succ f=>
 refine vr.2 ?_
 dsimp only[vr,gX]
 refine aL hI aW fun b8 w' hI=>?_
 have hI:Inv w [] [.blk b8 (.cells #[.int .i64 0,.int .i64 0,.string ⟨#[]⟩,.slice none 0 0] ab)] S w':=hI
 cases l with
 | zero=>
  rw [gB] at h
  refine dA rfl ?_
  refine av (fun _=>?_) (fun hb=>by cases hb)
  refine Run.call0E C4 CN hI (ihP f (by omega) s i d t n S h hs hi hd) fun v I' S2 w'=>?_
  rintro ⟨rfl,cs,rfl,hcs⟩ hE2 hI
  obtain ⟨kv,rfl,_,_,_,a,k,rfl,_⟩:=RdT.iff.1 hcs
  refine ai (v:=.agg _) rfl ?_
  refine ai (v:=.int .i64 (n:Int)) rfl ?_
  refine au hI 0 rfl ac rfl rfl (by simp [Value.oneCell']) fun w' hI=>?_
  refine be hI 0 ac rfl rfl ?_
  exact ⟨_,[],S2,rfl,hI.nil,hE2,rfl,_,rfl,hcs⟩
 | succ l=>
  rw [gB] at h
  split at h
  ·cases h
  rename_i t0 n0 hr
  have hle:=(fg f).1 _ _ _ _ _ _ hr
  refine dh (by omega) ?_
  refine av (fun hb=>by cases hb) (fun _=>?_)
  refine xi (a:=l+1) (b:=1) rfl rfl (by omega) (by omega) ?_
  rw [Nat.add_sub_cancel]
  refine Run.call0E ef eF hI (ihR f (by omega) s i d l t0 n0 S hr hs hi hd (by omega)) fun v I' S1 w'=>?_
  rintro ⟨rfl,cs,rfl,hcs⟩ hE1 hI
  obtain ⟨kv,rfl,_,_,_,a,k,rfl,_⟩:=RdT.iff.1 hcs
  refine ai (v:=.agg _) rfl ?_
  refine ai (v:=.int .i64 (n0:Int)) rfl ?_
  refine aL hI aW fun b10 w' hI=>?_
  refine au hI 1 rfl ac rfl rfl (by simp [Value.oneCell']) fun w' hI=>?_
  refine ⟨fun a w'=>∃ (f' n':Nat) (t':T) (ds:List Value) (S1:ad),f'<=f/\a=.int .i64 (n':Int)/\n'<=s.length/\EP f' s n' d l t'=some (t,n)/\Ext w.heap.size [] S S1/\RdT S1 ds t'/\Inv w [] [.blk b8 (.cells #[.int .i64 0,.int .i64 0,.string ⟨#[]⟩,.slice none 0 0] ab),.blk b10 (.cells ds.toArray ab)] S1 w',
   fun a _=>s.length+1 - (intOf a).toNat,⟨f,n0,t0,_,S1,Nat.le_refl _,rfl,hle.2,h,hE1,hcs,hI⟩,?_⟩
  clear h hE1 hcs hI hr hle
  intro _ _ _ _ t11 _ _ _ _ _ _ _ _ _ _ _ _ _ _ _ _ _ _ _ _ _ _ _ _ _ _ _ _ _ _ _ _ _ _ _ _ _ _ _ _ _ _ w'
  rintro ⟨f',n',t',ds,S1,hf',rfl,hn',ho,hE,hds,hI⟩
  obtain ⟨kd,rfl,_,_,hts',da,dm,rfl,_⟩:=RdT.iff.1 hds
  cases f' with
  | zero=>simp [EP] at ho
  | succ g=>
  rw [EP] at ho
  refine lX (by omega) ?_
  refine av (fun _=>?_) (fun hb=>by cases hb)
  refine Run.callPure IR Jv hI (Gy hs hn' S1) fun w' hI=>?_
  cases hop:opF s n' with
  | none=>
   rw [hop] at ho
   simp only [Option.some.injEq,Prod.mk.injEq] at ho
   obtain ⟨rfl,rfl⟩:=ho
   simp only [opV]
   refine ai (v:=.string ⟨#[]⟩) rfl ?_
   refine ai (v:=.int .i64 (n':Int)) rfl ?_
   refine ⟨fun b w'=>b=.bool true/\Inv w [] [.blk b8 (.cells #[.int .i64 0,.int .i64 0,.string ⟨#[]⟩,.slice none 0 0] ab),.blk b10 (.cells #[.int .i64 t'.kind,.int .i64 t'.n,.string t'.name,.slice da t'.kids.length dm] ab)] S1 w',?_,?_⟩
   ·refine bj ?_
    rw [decide_eq_true rfl]
    refine rpG ?_
    exact ⟨rfl,hI⟩
   intro t48 _ _ _ _ _ _ _ w'
   rintro ⟨rfl,hI⟩
   refine av (fun _=>?_) (fun hb=>by cases hb)
   refine aw hI 1 ac rfl rfl ?_
   refine au hI 0 rfl ac rfl rfl (by simp [Value.oneCell']) fun w' hI=>?_
   refine be hI 0 ac rfl rfl ?_
   exact ⟨_,[],S1,rfl,hI.nil,hE,rfl,_,rfl,hds⟩
  | some q=>
   obtain ⟨name,after⟩:=q
   rw [hop] at ho
   simp only [] at ho
   simp only [opV]
   have hol:=Lh hop
   refine ai (v:=.string (st name)) rfl ?_
   refine ai (v:=.int .i64 (after:Int)) rfl ?_
   refine ⟨fun b w'=>b=.bool (!decide (bE (st name)=((l+1:Nat):Int)))/\Inv w [] [.blk b8 (.cells #[.int .i64 0,.int .i64 0,.string ⟨#[]⟩,.slice none 0 0] ab),.blk b10 (.cells #[.int .i64 t'.kind,.int .i64 t'.n,.string t'.name,.slice da t'.kids.length dm] ab)] S1 w',?_,?_⟩
   ·refine yX (b:=[]) ?_
    rw [decide_eq_false hol.2.2.2]
    refine rpG ?_
    refine Run.callPure dU dV hI (cX _ S1) fun w' hI=>?_
    refine fN ?_
    refine rpG ?_
    exact ⟨rfl,hI⟩
   intro t48 _ _ _ _ _ _ _ w'
   rintro ⟨rfl,hI⟩
   split at ho
   ·rename_i hlv
    rw [decide_eq_true hlv]
    refine av (fun hb=>by cases hb) (fun _=>?_)
    split at ho
    ·cases ho
    rename_i r e hr
    have hle:=(fg g).1 _ _ _ _ _ _ hr
    refine xi (a:=l+1) (b:=1) rfl rfl (by omega) (by omega) ?_
    rw [Nat.add_sub_cancel]
    refine Run.call0E ef eF hI (ihR g (by omega) s after d l r e S1 hr hs (by omega) hd (by omega)) fun v I' S2 w'=>?_
    rintro ⟨rfl,es,rfl,hes⟩ hE2 hI
    obtain ⟨ke,rfl,_,_,_,ea,em,rfl,_⟩:=RdT.iff.1 hes
    refine ai (v:=.agg _) rfl ?_
    refine ai (v:=.int .i64 (e:Int)) rfl ?_
    refine aL hI aW fun b14 w' hI=>?_
    refine au hI 2 rfl ac rfl rfl (by simp [Value.oneCell']) fun w' hI=>?_
    refine dC (by omega) ?_
    refine av (fun hb=>by cases hb) (fun _=>?_)
    refine aw hI 1 ac rfl rfl ?_
    refine aw hI 2 ac rfl rfl ?_
    refine oF (v:=fun b=>.slice (some ⟨b,0,none⟩) 2 2) (o:=.cells #[.int .i64 t'.kind,.int .i64 t'.n,.string t'.name,.slice da t'.kids.length dm,.int .i64 r.kind,.int .i64 r.n,.string r.name,.slice ea r.kids.length em] ab) hI (by kernel_rfl) fun b20 w' hI=>?_
    obtain ⟨S3,hI,hE3,hS3⟩:=Inv.pub1 (A:=[_,_,_]) hI
    have hks:=Hh hS3 (RdT.mono (hE2.1.trans hE3.1) hds) (RdT.mono hE3.1 hes)
    refine Run.call0E ct cu hI (cT (st name) (CM hol.2.2.1) hks (by simp)) fun v I' S4 w'=>?_
    rintro ⟨rfl,gs,rfl,hgs⟩ hE4 hI
    obtain ⟨kg,rfl,_,_,_,ga,gm,rfl,_⟩:=RdT.iff.1 hgs
    have hE':=((hE.trans hE2).trans hE3).trans hE4
    refine au hI 1 rfl ac rfl rfl (by simp [Value.oneCell']) fun w' hI=>?_
    split at ho
    ·rename_i hl2
     subst hl2
     simp only [Option.some.injEq,Prod.mk.injEq] at ho
     obtain ⟨rfl,rfl⟩:=ho
     refine dA rfl ?_
     refine av (fun _=>?_) (fun hb=>by cases hb)
     refine aw hI 1 ac rfl rfl ?_
     refine au hI 0 rfl ac rfl rfl (by simp [Value.oneCell']) fun w' hI=>?_
     refine be hI 0 ac rfl rfl ?_
     exact ⟨_,[],S4,rfl,hI.nil,hE',rfl,_,rfl,hgs⟩
    ·refine dh (by omega) ?_
     refine av (fun hb=>by cases hb) (fun _=>?_)
     refine ⟨⟨g,e,_,_,S4,by omega,rfl,hle.2,ho,hE',hgs,hI.pick [true,true,false]⟩,?_⟩
     simp only [intOf,Int.toNat_natCast]
     omega
   ·rename_i hlv
    rw [decide_eq_false hlv]
    simp only [Option.some.injEq,Prod.mk.injEq] at ho
    obtain ⟨rfl,rfl⟩:=ho
    refine av (fun _=>?_) (fun hb=>by cases hb)
    refine aw hI 1 ac rfl rfl ?_
    refine au hI 0 rfl ac rfl rfl (by simp [Value.oneCell']) fun w' hI=>?_
    refine be hI 0 ac rfl rfl ?_
    exact ⟨_,[],S1,rfl,hI.nil,hE,rfl,_,rfl,hds⟩
theorem Ko:∀ F f,f<F->ou f/\BE f/\rm f
 | 0,f,h=>by omega
 | F+1,f,h=>by
  have ih:=Ko F
  have hR:ou f:=MH (fun g hg=>(ih g (by omega)).1) (fun g hg=>(ih g (by omega)).2.1)
  have hT:rm f:=JL fun g hg=>(ih g (by omega)).1
  exact ⟨hR,KQ (fun g hg=>(ih g (by omega)).1) (fun g hg=>(ih g (by omega)).2.2),hT⟩
theorem Az (f:Nat):ou f:=(Ko (f+1) f (by omega)).1
end

end Go.Proofs.YtcpgagfdeflbkaaGreatDoor
