/- Texts read: spec.l1Struct, l1Chain, l2Read, l2Prime, l2Terms, l2Items. (printed by gen_read.py) -/
import Derived.Test.YtfcbhfjomgopbaaGreatZFu10
import Derived.Test.YtfcbhfjomgopbaaGreatZFu7
namespace Go.Proofs.YtfcbhfjomgopbaaGreat
open Go Go.RowKit
theorem QR {s:Bs} {i e:Nat} {t:T} (hn:ON s i=some (t,e)):i<e/\e<=s.length:=by
 unfold ON at hn
 obtain ⟨fr,hfr⟩:∃ fr,fr=if sgn s i 45=true then i+1 else i:=⟨_,rfl⟩
 simp only [<- hfr] at hn
 have hle:=H3 s 4 fr
 have hfi:i<=fr/\fr<=i+1:=by rw [hfr]; split <;> omega
 split at hn
 ·cases hn
 rename_i hc
 simp only [not_or] at hc
 simp only [Option.some.injEq,Prod.mk.injEq] at hn
 obtain ⟨_,rfl⟩:=hn
 have h2:fr<r5 s 4 fr:=by
  rcases Nat.lt_or_ge fr (r5 s 4 fr) with h|h
  ·exact h
  ·refine absurd ?_ hc.1
   rw [cut,List.drop_eq_nil_of_le]
   rw [List.length_take]
   omega
 have:=CV (uO s 4 fr (r5 s 4 fr - 1) (by omega) (by omega))
 omega
theorem gS:∀ f:Nat,(∀ s i d l t n,io f s i d l=some (t,n)->i<n/\n<=s.length)/\(∀ s i d l t0 t n,JS f s i d l t0=some (t,n)->i<=s.length->i<=n/\n<=s.length)/\
  (∀ s i d t n,tF f s i d=some (t,n)->i<n/\n<=s.length)/\(∀ s i d e o acc ts n,im f s i d e o acc=some (ts,n)->i<n/\n<s.length)
 | 0=>⟨fun s i d l t n h=>by simp [io] at h,fun s i d l t0 t n h=>by simp [JS] at h,fun s i d t n h=>by simp [tF] at h,fun s i d e o acc ts n h=>by simp [im] at h⟩
 | f+1=>by
  obtain ⟨h1,h2,h3,h4⟩:=gS f
  refine ⟨fun s i d l t n h=>?_,fun s i d l t0 t n h hi=>?_,fun s i d t n h=>?_,fun s i d e o acc ts n h=>?_⟩
  ·cases l with
   | zero=>rw [io] at h; exact h3 _ _ _ _ _ h
   | succ l=>
    rw [io] at h
    split at h
    ·cases h
    ·rename_i t' n' hr
     have a:=h1 _ _ _ _ _ _ hr
     have b:=h2 _ _ _ _ _ _ _ h a.2
     omega
  ·rw [JS] at h
   split at h
   ·simp only [Option.some.injEq,Prod.mk.injEq] at h
    omega
   ·rename_i name after ho
    have a:=P2 ho
    split at h
    ·split at h
     ·cases h
     ·rename_i r e hr
      have b:=h1 _ _ _ _ _ _ hr
      split at h
      ·simp only [Option.some.injEq,Prod.mk.injEq] at h
       omega
      ·have c:=h2 _ _ _ _ _ _ _ h b.2
       omega
    ·simp only [Option.some.injEq,Prod.mk.injEq] at h
     omega
  ·rw [tF] at h
   split at h
   ·cases h
   rename_i h0
   have h0:i<s.length:=by omega
   split at h
   ·split at h
    ·cases h
    ·rename_i t' n' hr
     have a:=h1 _ _ _ _ _ _ hr
     split at h
     ·rename_i hs
      have:=ib hs
      simp only [Option.some.injEq,Prod.mk.injEq] at h
      omega
     ·cases h
   ·split at h
    ·split at h
     ·cases h
     ·rename_i ts n' hr
      have a:=h4 _ _ _ _ _ _ _ _ hr
      split at h
      ·simp only [Option.some.injEq,Prod.mk.injEq] at h
       omega
      ·split at h
       ·cases h
       ·rename_i t' e hr2
        have b:=h1 _ _ _ _ _ _ hr2
        split at h
        ·rename_i hs
         have:=ib hs
         simp only [Option.some.injEq,Prod.mk.injEq] at h
         omega
        ·cases h
    ·split at h
     ·simp only [Option.some.injEq,Prod.mk.injEq] at h
      omega
     ·split at h
      ·exact QR h
      ·split at h
       ·cases h
       ·rename_i name n' hn
        have a:=wU h0 hn
        split at h
        ·simp only [Option.some.injEq,Prod.mk.injEq] at h
         omega
        ·split at h
         ·cases h
         ·rename_i ts e hr
          have b:=h4 _ _ _ _ _ _ _ _ hr
          simp only [Option.some.injEq,Prod.mk.injEq] at h
          omega
  ·rw [im] at h
   split at h
   ·cases h
   ·rename_i t' n' hr
    have a:=h1 _ _ _ _ _ _ hr
    split at h
    ·rename_i hs
     have hlt:n'<s.length:=hs.elim ib ib
     simp only [Option.some.injEq,Prod.mk.injEq] at h
     omega
    ·split at h
     ·have b:=h4 _ _ _ _ _ _ _ _ h
      omega
     ·cases h
abbrev Tk (t:T):Value->List Item->ae->Prop:=fun v I' S'=>I'=[]/\∃ cs,v=.agg cs.toArray/\RdT S' cs t
abbrev Ph (t:T) (n:Nat):Value->List Item->ae->Prop:=fun v I' S'=>I'=[]/\∃ cs,v=.tuple #[.agg cs.toArray,.int .i64 (n:Int)]/\RdT S' cs t
abbrev RL (ts:List T) (n:Nat):Value->List Item->ae->Prop:=fun v I' S'=>I'=[]/\∃ u,v=.tuple #[u,.int .i64 (n:Int)]/\RdSl S' 4 (RdT S') u ts
theorem jf (S:ae):RdSl S 4 (RdT S) (.slice none 0 0) []:=⟨none,0,rfl,Nat.le_refl _,Nat.zero_le _,.inl rfl⟩
theorem Le {S:ae} {b:Nat} {E:TypeId} {a c:T} {k1 n1 k2 n2:Int} {s1 s2:ByteArray} {v1 v2:Value} (hS:S b=some (.cells #[.int .i64 k1,.int .i64 n1,.string s1,v1,.int .i64 k2,.int .i64 n2,.string s2,v2] E))
  (h1:RdT S [.int .i64 k1,.int .i64 n1,.string s1,v1] a) (h2:RdT S [.int .i64 k2,.int .i64 n2,.string s2,v2] c):RdSl S 4 (RdT S) (.slice (some ⟨b,0,none⟩) 2 2) [a,c]:=by
 refine ⟨_,2,rfl,Nat.le_refl _,by simp [maxLen],.inr ⟨b,0,_,E,(0,0),rfl,hS,fun i hi=>?_⟩⟩
 match i,hi with
 | 0,_=>exact h1
 | 1,_=>exact h2
section
variable {w w0:World} {X:List Nat} {L:List Item} {S:ae} {K:Value->World->Prop}
attribute [local irreducible] Run CondV aB aS
theorem eN {P:Program} {T:TypeId} {cx cy:Bool} {x y:Int} {a b:Nat} (hx:x=a) (hy:y=b) (hr:a+b<=1000000000000000) (hk:K (.int .i64 ((a+b:Nat):Int)) w):Run P (cS .add T cx cy (.int .i64 x) (.int .i64 y)) w K:=by
 subst hx hy
 refine bl (by omega) ?_
 rw [<- Int.natCast_add]
 exact hk
theorem BG {P:Program} {T:TypeId} {cx cy:Bool} {x y:Int} {a b:Nat} (hx:x=a) (hy:y=b) (hle:b<=a) (hr:a<=1000000000000000) (hk:K (.int .i64 ((a - b:Nat):Int)) w):Run P (cS .sub T cx cy (.int .i64 x) (.int .i64 y)) w K:=by
 subst hx hy
 refine hK (by omega) ?_
 rw [<- Int.ofNat_sub hle]
 exact hk
theorem tA {s:ByteArray} {v:Value} (hv:∃ p n m,v=.slice p n m) (hk:K (.agg #[.int .i64 3,.int .i64 0,.string s,v]) w):Run Tryz.prog (bX ab [(0,.int .i64 3),(2,.string s),(3,v)]) w K:=by
 obtain ⟨p,n,m,rfl⟩:=hv
 refine Run.of (v:=.agg #[.int .i64 3,.int .i64 0,.string s,.slice p n m]) (w':=w) ?_ hk
 unfold bX
 rw [Sem.run_bind,run_build w ab _ #[.int .i64 3,.int .i64 0,.string s,.slice p n m] (by kernel_rfl),Result.andThen_ok]
 rfl
theorem uU (s:ByteArray) {ks:List T} {u:Value} (h:RdSl S 4 (RdT S) u ks) (hk:ks.length<=1000000):Tri Tryz.prog uW [.string s,u] [] S fun v I' S'=>S'=S/\∃ kv css,v=.agg #[.int .i64 3,.int .i64 0,.string s,kv]/\I'=[aK kv ab 4 css]/\Rows 4 (RdT S) css ks:=by
 intro w hI
 refine sA.2 ?_
 dsimp only[sA,aW]
 refine aD hI aQ fun b4 w' hI=>?_
 refine dD hI bp fun v0 w' hI=>?_
 have hI:Inv w [] [.blk b4 (.cells #[.int .i64 0,.int .i64 0,.string ⟨#[]⟩,.slice none 0 0] ab),aK v0 ab 4 []] S w':=hI
 refine eB hI 1 (css:=[]) bp (by omega) rfl h (fun _ _=>RdT.length) (fun _ _=>RdT.one) (by simp; omega) (by omega) fun v' w' css2 hR hI=>?_
 have hI:Inv w [] [.blk b4 (.cells #[.int .i64 0,.int .i64 0,.string ⟨#[]⟩,.slice none 0 0] ab),aK v' ab 4 css2] S w':=hI
 obtain ⟨a,n,c,rfl⟩:=hI.rowSlice 1 rfl
 refine tA ⟨_,_,_,rfl⟩ ?_
 refine aq hI 0 rfl ac rfl rfl (by simp [Value.oneCell']) fun w' hI=>?_
 refine aU hI 0 ac rfl rfl ?_
 exact ⟨_,_,_,rfl,hI.sub (List.sublist_cons_self _ _),Ext.refl _ _ _,rfl,_,css2,rfl,rfl,hR⟩
theorem dP (s:ByteArray) (hs:s.size<=maxLen) {ks:List T} {u:Value} (h:RdSl S 4 (RdT S) u ks) (hk:ks.length<=1000000):Tri Tryz.prog uW [.string s,u] [] S (Tk (.mk 3 0 s ks)):=by
 intro w hI
 refine (uU s h hk w hI).mono ?_
 rintro e w' ⟨v,I',S',rfl,hI,hE,rfl,kv,css,rfl,rfl,hR⟩
 obtain ⟨S1,hE1,hrd,hI⟩:=Inv.lendExt (A:=[]) hI
 have hrs:=RowRd.rows (hR.monoR fun _ _ h=>RdT.mono hE1.1 h) hrd
 exact ⟨_,[],S1,rfl,hI,hE.trans hE1,rfl,[.int .i64 3,.int .i64 0,.string s,kv],rfl,RdT.iff.2 ⟨kv,rfl,by simp [inI,T.kind],by simp [inI,T.n],hs,hrs⟩⟩
theorem LZ {ts:List T} {j:Nat} (h:j<ts.length) (t:T):i4 (ts.drop j) t=IY ts[j] (i4 (ts.drop (j+1)) t):=by
 rw [List.drop_eq_getElem_cons h,i4]
theorem sm {ts:List T} {t:T} {u:Value} {cs:List Value} (h:RdSl S 4 (RdT S) u ts) (ht:RdT S cs t) (hl:ts.length<=1000000):Tri Tryz.prog Kd [u,.agg cs.toArray] [] S (Tk (i4 ts t)):=by
 intro w hI
 obtain ⟨kv,rfl,g1,g2,g3,g4⟩:=RdT.iff.1 ht
 obtain ⟨ka,kn,kc,hkv⟩:∃ a n m,kv=.slice a n m:=by
  obtain ⟨a,m,e,_⟩:=g4
  exact ⟨_,_,_,e⟩
 refine uH.2 ?_
 dsimp only[uH,aW]
 refine bf hI fun b3 w' hI=>?_
 refine aD hI aQ fun b4 w' hI=>?_
 refine ao hI 0 ac rfl rfl ?_
 refine aD hI aQ fun b5 w' hI=>?_
 refine aq hI 2 rfl ac rfl rfl (by simp [Value.oneCell',Value.cells,hkv]) fun w' hI=>?_
 refine aC h af ?_
 refine hK (by omega) ?_
 obtain ⟨B3,hB3⟩:∃ B3,B3=Item.blk b3 (.cells #[.int .i64 t.kind,.int .i64 t.n,.string t.name,kv] ab):=⟨_,rfl⟩
 have hI:Inv w [] [B3,.blk b4 (.cells #[.int .i64 0,.int .i64 0,.string ⟨#[]⟩,.slice none 0 0] ab),.blk b5 (.cells #[.int .i64 t.kind,.int .i64 t.n,.string t.name,kv] ab)] S w':=by rw [hB3]; exact hI
 refine ⟨fun i w'=>∃ (j:Nat) (S1:ae) (ds:List Value),j<=ts.length/\i=.int .i64 ((j:Int) - 1)/\Ext w.heap.size [] S S1/\RdT S1 ds (i4 (ts.drop j) t)/\Inv w [] [B3,.blk b4 (.cells #[.int .i64 0,.int .i64 0,.string ⟨#[]⟩,.slice none 0 0] ab),.blk b5 (.cells ds.toArray ab)] S1 w',
  fun i _=>(intOf i+1).toNat,⟨ts.length,S,_,Nat.le_refl _,rfl,Ext.refl _ _ _,by rw [List.drop_length]; exact ht,hI⟩,?_⟩
 intro t6 _ _ t21 t20 t19 t18 t17 t16 t15 _ _ w'
 rintro ⟨j,S1,ds,hj,rfl,hE,hds,hI⟩
 by_cases hj0:j=0
 ·subst hj0
  refine xR (by omega) ?_
  refine az (fun hb=>by cases hb) (fun _=>?_)
  obtain ⟨kv',rfl,_,_,_,a,m,rfl,_⟩:=RdT.iff.1 hds
  refine ao hI 2 ac rfl rfl ?_
  refine aq hI 1 rfl ac rfl rfl (by simp [Value.oneCell']) fun w' hI=>?_
  refine aU hI 1 ac rfl rfl ?_
  exact ⟨_,_,_,rfl,hI.nil,hE,rfl,_,rfl,hds⟩
 ·refine oj (by omega) ?_
  refine az (fun _=>?_) (fun hb=>by cases hb)
  obtain ⟨m,rfl⟩:∃ m,j=m+1:=⟨j - 1,by omega⟩
  have hm:m<ts.length:=by omega
  have ej:((m+1:Nat):Int) - 1=(m:Int):=by omega
  rw [ej]
  obtain ⟨b,o,cap,c,E,fz,rfl,hS,hR⟩:=(h.monoT hE.1).at_ hm
  obtain ⟨ka',hca,_,_,_,aa,am,hka',_⟩:=RdT.iff.1 hR
  subst hka'
  obtain ⟨kd,rfl,_,_,_,da,dm,rfl,_⟩:=RdT.iff.1 hds
  obtain ⟨o1,ho1⟩:∃ o1,o1=i4 (ts.drop (m+1)) t:=⟨_,rfl⟩
  rw [<- ho1] at hds hI
  obtain ⟨a1,ha1⟩:∃ a1,a1=ts[m]:=⟨_,rfl⟩
  rw [<- ha1] at hR hca
  skip
  refine ⟨fun D lR jN lM qZ mO ur AD w_=>Fx D 0 [AD=.slice (some ⟨b,o,none⟩) ts.length cap,ur=.int .i64 (m:Int),mO=.pointer (some ⟨b,o+m * 4,none⟩),qZ=.agg #[.int .i64 a1.kind,.int .i64 a1.n,.string a1.name,.slice aa a1.kids.length am],lM=.agg #[.int .i64 o1.kind,.int .i64 o1.n,.string o1.name,.slice da o1.kids.length dm],True,True,True]/\∃ S2 c6,Ext w.heap.size [] S1 S2/\(D 5=true->RdSl S2 4 (RdT S2) jN [a1,o1])/\(D 6=true->lR=.agg c6.toArray/\RdT S2 c6 (IY a1 o1))/\(D 7=true->D 6=true)/\(D 6=true->D 5=true)/\(D 5=true->D 4=true)/\Inv w [] [B3,.blk b4 (.cells #[.int .i64 0,.int .i64 0,.string ⟨#[]⟩,.slice none 0 0] ab),.blk b5 (.cells (match D 7 with|true=>c6.toArray|false=>#[.int .i64 o1.kind,.int .i64 o1.n,.string o1.name,.slice da o1.kids.length dm]) ab)] S2 w_,⟨Fx.nil _ _,⟨S1,[],Ext.refl _ _ _,aV,aV,aV,aV,aV,hI.draw⟩⟩,⟨?_,?_,?_,?_,?_,?_,?_,?_,trivial⟩,?_⟩
  all_goals (intro D bn; intros; rename_i lR jN lM qZ mO ur AD w_ hA_; have hF_:=hA_.1; obtain ⟨⟨bR,bQ,bG,bS,bU,bB,bD,cq,_⟩,⟨S2,c6,hE2,e5,e6,k7,k6,k5,hI⟩⟩:=hA_)
  ·exact ⟨hF_.set 0 rfl,⟨S2,c6,hE2,e5,e6,k7,k6,k5,hI⟩⟩
  ·exact ⟨hF_.set 1 rfl,⟨S2,c6,hE2,e5,e6,k7,k6,k5,hI⟩⟩
  ·obtain rfl:=bR ‹_›
   obtain rfl:=bQ ‹_›
   refine ar af hm ?_
   exact ⟨hF_.set 2 rfl,⟨S2,c6,hE2,e5,e6,k7,k6,k5,hI⟩⟩
  ·obtain rfl:=bG ‹_›
   refine bE (cs:=[.int .i64 a1.kind,.int .i64 a1.n,.string a1.name,.slice aa a1.kids.length am]) ac rfl (fun j v hj=>by rw [hI.cellS (hE2.1 _ _ hS)]; exact au hca j v hj) ?_
   exact ⟨hF_.set 3 rfl,⟨S2,c6,hE2,e5,e6,k7,k6,k5,hI⟩⟩
  ·have f5:D 5=false:=Bool.eq_false_iff.2 fun h=>by rw [k5 h] at bn; cases bn
   have f6:D 6=false:=Bool.eq_false_iff.2 fun h=>by rw [k6 h] at f5; cases f5
   have f7:D 7=false:=Bool.eq_false_iff.2 fun h=>by rw [k7 h] at f6; cases f6
   have hI0:=hI
   rw [f7] at hI
   refine ao hI 2 ac rfl rfl ?_
   have hI:=hI0
   have k5:=fun (_:aG D 4 5=true)=>(rfl:aG D 4 4=true)
   exact ⟨hF_.set 4 rfl,⟨S2,c6,hE2,e5,e6,k7,k6,k5,hI⟩⟩
  ·obtain rfl:=bS ‹_›
   obtain rfl:=bU ‹_›
   have f6:D 6=false:=Bool.eq_false_iff.2 fun h=>by rw [k6 h] at bn; cases bn
   have f7:D 7=false:=Bool.eq_false_iff.2 fun h=>by rw [k7 h] at f6; cases f6
   rw [f7] at hI
   refine rg (v:=fun b=>.slice (some ⟨b,0,none⟩) 2 2) (o:=.cells #[.int .i64 a1.kind,.int .i64 a1.n,.string a1.name,.slice aa a1.kids.length am,.int .i64 o1.kind,.int .i64 o1.n,.string o1.name,.slice da o1.kids.length dm] ab) hI (by kernel_rfl) fun b20 w_ hI=>?_
   obtain ⟨S2,hI,hE3,hS3⟩:=Inv.pub1 (A:=[_,_,_]) hI
   have hE2:=hE2.trans hE3
   have hR':RdT S2 [.int .i64 a1.kind,.int .i64 a1.n,.string a1.name,.slice aa a1.kids.length am] a1:=by
    have:=RdT.mono hE2.1 hR
    rwa [hca] at this
   have e5:=fun (_:aG D 5 5=true)=>Le hS3 hR' (RdT.mono hE2.1 hds)
   have e6:=fun (h:D 6=true)=>(absurd h (by rw [f6]; decide):lR=.agg c6.toArray/\RdT S2 c6 (IY a1 o1))
   have k6:=fun (_:aG D 5 6=true)=>(rfl:aG D 5 5=true)
   have k5:=fun (_:aG D 5 5=true)=>‹D 4=true›
   have hI:Inv w [] [B3,.blk b4 (.cells #[.int .i64 0,.int .i64 0,.string ⟨#[]⟩,.slice none 0 0] ab),.blk b5 (.cells (match D 7 with|true=>c6.toArray|false=>#[.int .i64 o1.kind,.int .i64 o1.n,.string o1.name,.slice da o1.kids.length dm]) ab)] S2 w_:=by
    rw [f7]
    exact hI
   exact ⟨hF_.set 5 (by first|assumption|trivial),⟨S2,c6,hE2,e5,e6,k7,k6,k5,hI⟩⟩
  ·have MX:=bB ‹_›
   have f7:D 7=false:=Bool.eq_false_iff.2 fun h=>by rw [k7 h] at bn; cases bn
   rw [f7] at hI
   refine Run.call0E dr dv hI (dP ⟨#[46]⟩ (by decide +kernel) (e5 ‹D 5=true›) (by simp)) fun v' I' S2 w_=>?_
   rintro ⟨rfl,c6,rfl,hc6⟩ hE3 hI
   have hE2:=hE2.trans hE3
   have e5:=fun (h:D 5=true)=>(e5 h).monoT hE3.1
   have e6:aG D 6 6=true->Value.agg c6.toArray=Value.agg c6.toArray/\RdT S2 c6 (IY a1 o1):=fun _=>⟨rfl,hc6⟩
   have k7:=fun (_:aG D 6 7=true)=>(rfl:aG D 6 6=true)
   have k6:=fun (_:aG D 6 6=true)=>‹D 5=true›
   have hI:Inv w [] [B3,.blk b4 (.cells #[.int .i64 0,.int .i64 0,.string ⟨#[]⟩,.slice none 0 0] ab),.blk b5 (.cells (match D 7 with|true=>c6.toArray|false=>#[.int .i64 o1.kind,.int .i64 o1.n,.string o1.name,.slice da o1.kids.length dm]) ab)] S2 w_:=by
    rw [f7]
    exact hI
   exact ⟨hF_.set 6 (by first|assumption|trivial),⟨S2,c6,hE2,e5,e6,k7,k6,k5,hI⟩⟩
  ·have Ni:=bD ‹_›
   obtain ⟨q6,hc6⟩:=e6 ‹D 6=true›
   subst q6
   rw [bn] at hI
   have hone:=hc6.one
   have hlen:=hc6.length
   refine aq hI 2 rfl ac (by simpa using hlen) rfl (by simpa using hone) fun w_ hI=>?_
   have k7:=fun (_:aG D 7 7=true)=>‹D 6=true›
   exact ⟨hF_.set 7 trivial,⟨S2,c6,hE2,e5,e6,k7,k6,k5,hI⟩⟩
  obtain ⟨rfl,rfl,rfl,rfl,rfl,MX,Ni,_,_⟩:=hF_.all
  have Qa:D 6=true:=by assumption
  have uZ:D 7=true:=by assumption
  clear hF_ bR bQ bG bS bU bB bD cq
  rw [uZ] at hI
  obtain ⟨_,hc6⟩:=e6 Qa
  refine hK (by omega) ?_
  refine ⟨⟨m,S2,c6,by omega,rfl,hE.trans hE2,?_,hI⟩,by simp [intOf]⟩
  rw [LZ hm,<- ha1,<- ho1]
  exact hc6
end
def qL (f:Nat):Prop:=∀ (s:Bs) (i d l:Nat) (t:T) (n:Nat) (S:ae),io f s i d l=some (t,n)->s.length<=100000->i<=s.length->d<=100->l<=3->
 Tri Tryz.prog Md [.string (st s),.int .i64 (i:Int),.int .i64 (d:Int),.int .i64 (l:Int)] [] S (Ph t n)
def GU (f:Nat):Prop:=∀ (s:Bs) (i d:Nat) (t:T) (n:Nat) (S:ae),tF f s i d=some (t,n)->s.length<=100000->i<=s.length->d<=100->
 Tri Tryz.prog ID [.string (st s),.int .i64 (i:Int),.int .i64 (d:Int)] [] S (Ph t n)
def vN (f:Nat):Prop:=∀ (s:Bs) (i d e o:Nat) (ts:List T) (n:Nat) (S:ae),im f s i d e o []=some (ts,n)->s.length<=100000->i<=s.length->d<=100->
 Tri Tryz.prog Jv [.string (st s),.int .i64 (i:Int),.int .i64 (d:Int),.int .u8 (e:Int),.int .u8 (o:Int)] [] S (RL ts n)
theorem EX:∀ (f:Nat) (s:Bs) (i d e o:Nat) (acc ts:List T) (n:Nat),im f s i d e o acc=some (ts,n)->ts.length+i<=acc.length+n
 | 0,s,i,d,e,o,acc,ts,n,h=>by simp [im] at h
 | f+1,s,i,d,e,o,acc,ts,n,h=>by
  rw [im] at h
  split at h
  ·cases h
  ·rename_i t' n' hr
   have a:=(gS f).1 _ _ _ _ _ _ hr
   split at h
   ·simp only [Option.some.injEq,Prod.mk.injEq] at h
    obtain ⟨rfl,rfl⟩:=h
    rw [List.length_append]
    simp only [List.length_cons,List.length_nil]
    omega
   ·split at h
    ·have b:=EX f _ _ _ _ _ _ _ _ h
     rw [List.length_append] at b
     simp only [List.length_cons,List.length_nil] at b
     omega
    ·cases h
section
attribute [local irreducible] Run CondV aB aS
theorem Pn {f:Nat} (ih:∀ g,g<f->qL g):vN f:=by
 intro s i d e o ts n S h hs hi hd w hI
 refine xi.2 ?_
 dsimp only[xi,RN]
 refine dD hI bp fun v0 w' hI=>?_
 refine ⟨fun a b w'=>∃ (f' i':Nat) (acc:List T) (S1:ae) (css:List (List Value)),f'<=f/\a=.int .i64 (i':Int)/\i<=i'/\i'<=s.length/\acc.length+i<=i'/\im f' s i' d e o acc=some (ts,n)/\Ext w.heap.size [] S S1/\Rows 4 (RdT S1) css acc/\Inv w [] [aK b ab 4 css] S1 w',
  fun a _ _=>s.length+1 - (intOf a).toNat,⟨f,i,[],S,[],Nat.le_refl _,rfl,Nat.le_refl _,hi,by simp,h,Ext.refl _ _ _,Rows.nil _ _,hI⟩,?_⟩
 intro t1 _ _ _ _ _ _ _ _ _ _ _ _ _ _ _ _ _ _ _ _ t12 _ _ _ _ _ _ _ _ _ _ _ _ _ _ _ _ _ _ w'
 rintro ⟨f',i',acc,S1,css,hf',rfl,hi1,hi2,hacc,hT,hE,hR,hI⟩
 have hcl:=hR.hc
 cases f' with
 | zero=>simp [im] at hT
 | succ g=>
 rw [im] at hT
 split at hT
 ·cases hT
 rename_i t n' hr
 have hle:=(gS g).1 _ _ _ _ _ _ hr
 refine Run.call0E ft fx hI (ih g (by omega) s i' d 3 t n' S1 hr hs hi2 hd (by omega)) fun v I' S2 w'=>?_
 rintro ⟨rfl,cs,rfl,hcs⟩ hE2 hI
 have hR2:=hR.monoR fun _ _ h=>RdT.mono hE2.1 h
 obtain ⟨kv,rfl,_,_,_,a,m,rfl,_⟩:=RdT.iff.1 hcs
 refine aj (v:=.agg _) rfl ?_
 refine aj (v:=.int .i64 (n':Int)) rfl ?_
 refine aD hI aQ fun b13 w' hI=>?_
 refine aq hI 1 rfl ac rfl rfl (by simp [Value.oneCell']) fun w' hI=>?_
 refine eO (by omega) ?_
 refine az (fun hb=>by cases hb) (fun _=>?_)
 refine ao hI 1 ac rfl rfl ?_
 refine dZ (css:=css) hI 0 _ bp (by omega) (by omega) rfl hcs.length hcs.one (by omega) (by omega) fun v' w' hI=>?_
 have hI:Inv w [] [aK v' ab 4 (css++[[.int .i64 t.kind,.int .i64 t.n,.string t.name,.slice a t.kids.length m]])] S2 w':=hI.pick [true,false]
 have hR3:=hR2.snoc hcs hcs.length
 refine ⟨fun b w'=>b=.bool (sgn s n' e || sgn s n' o)/\Inv w [] [aK v' ab 4 (css++[[.int .i64 t.kind,.int .i64 t.n,.string t.name,.slice a t.kids.length m]])] S2 w',?_,?_⟩
 ·refine Run.callPure cV cZ hI (cN s n' e S2) fun w' hI=>?_
  cases he:sgn s n' e
  ·refine rpG ?_
   refine Run.callPure cV cZ hI (cN s n' o S2) fun w' hI=>?_
   refine rpG ?_
   exact ⟨by simp,hI⟩
  ·refine rpG ?_
   exact ⟨by simp,hI⟩
 intro t39 _ _ _ _ _ _ _ _ _ w'
 rintro ⟨rfl,hI⟩
 refine az (fun hb=>?_) (fun hb=>?_)
 ·rw [Bool.or_eq_true] at hb
  rw [if_pos hb] at hT
  simp only [Option.some.injEq,Prod.mk.injEq] at hT
  obtain ⟨rfl,rfl⟩:=hT
  obtain ⟨S3,hE3,hrd,hI⟩:=Inv.lendExt (A:=[]) hI
  have hrs:=RowRd.rows (hR3.monoR fun _ _ h=>RdT.mono hE3.1 h) hrd
  exact ⟨_,[],S3,rfl,hI,(hE.trans hE2).trans hE3,rfl,_,rfl,hrs⟩
 ·have hb':¬ (sgn s n' e=true ∨ sgn s n' o=true):=fun h=>by rw [<- Bool.or_eq_true,hb] at h; cases h
  rw [if_neg hb'] at hT
  split at hT
  ·rename_i h44
   refine Run.callPure cV cZ hI (cN s n' 44 S2) fun w' hI=>?_
   refine bK ?_
   rw [h44]
   refine az (fun hb=>by cases hb) (fun _=>?_)
   have:=ib h44
   refine eN (a:=n') (b:=1) rfl rfl (by omega) ?_
   refine ⟨⟨g,n'+1,acc++[t],S2,css++[[.int .i64 t.kind,.int .i64 t.n,.string t.name,.slice a t.kids.length m]],by omega,rfl,by omega,by omega,?_,hT,hE.trans hE2,hR3,hI⟩,?_⟩
   ·rw [List.length_append]; simp only [List.length_cons,List.length_nil]; omega
   ·simp only [intOf,Int.toNat_natCast]; omega
  ·cases hT
theorem IF {g:Nat} (hT:vN g) (hR:qL g) {s:Bs} {i d:Nat} {ts:List T} {n:Nat} {t:T} {e:Nat} (h1:im g s i d 93 124 []=some (ts,n))
  (h2:(sgn s n 93=true/\t=i4 ts R7/\e=n+1) ∨ (sgn s n 93=false/\∃ u m,io g s (n+1) d 3=some (u,m)/\sgn s m 93=true/\t=i4 ts u/\e=m+1))
  (hs:s.length<=100000) (hi:i<=s.length) (hd:d<=100) (S:ae):Tri Tryz.prog J0 [.string (st s),.int .i64 (i:Int),.int .i64 (d:Int)] [] S (Ph t e):=by
 intro w hI
 have hle:=(gS g).2.2.2 _ _ _ _ _ _ _ _ h1
 have hln:=EX _ _ _ _ _ _ _ _ _ h1
 simp only [List.length_nil] at hln
 refine vS.2 ?_
 dsimp only[vS,cW]
 refine aD hI aQ fun b6 w' hI=>?_
 refine Run.call0E vU xr hI (hT s i d 93 124 ts n S h1 hs hi hd) fun v I' S1 w'=>?_
 rintro ⟨rfl,u,rfl,hu⟩ hE1 hI
 have hI:Inv w [] [.blk b6 (.cells #[.int .i64 0,.int .i64 0,.string ⟨#[]⟩,.slice none 0 0] ab)] S1 w':=hI
 refine aj (v:=u) rfl ?_
 refine aj (v:=.int .i64 (n:Int)) rfl ?_
 refine eO (by omega) ?_
 refine az (fun hb=>by cases hb) (fun _=>?_)
 refine Run.callPure cV cZ hI (cN s n 93 S1) fun w' hI=>?_
 rcases h2 with ⟨h3,rfl,rfl⟩|⟨h3,x,m,h4,h5,rfl,rfl⟩
 ·rw [h3]
  refine az (fun _=>?_) (fun hb=>by cases hb)
  refine Run.call0E dr dv hI (dP ⟨#[91,93]⟩ (by decide +kernel) (jf S1) (by simp)) fun v I' S2 w'=>?_
  rintro ⟨rfl,cs,rfl,hcs⟩ hE2 hI
  refine Run.call0E wX wd hI (sm (hu.monoT hE2.1) hcs (by omega)) fun v I' S3 w'=>?_
  rintro ⟨rfl,ds,rfl,hds⟩ hE3 hI
  refine eN (a:=n) (b:=1) rfl rfl (by omega) ?_
  obtain ⟨kv,rfl,_,_,_,a,k,rfl,_⟩:=RdT.iff.1 hds
  refine aq hI 0 rfl ac rfl rfl (by simp [Value.oneCell']) fun w' hI=>?_
  refine aU hI 0 ac rfl rfl ?_
  exact ⟨_,[],S3,rfl,hI.nil,(hE1.trans hE2).trans hE3,rfl,_,rfl,hds⟩
 ·rw [h3]
  refine az (fun hb=>by cases hb) (fun _=>?_)
  refine eN (a:=n) (b:=1) rfl rfl (by omega) ?_
  have hle2:=(gS g).1 _ _ _ _ _ _ h4
  refine Run.call0E ft fx hI (hR s (n+1) d 3 x m S1 h4 hs (by omega) hd (by omega)) fun v I' S2 w'=>?_
  rintro ⟨rfl,cs,rfl,hcs⟩ hE2 hI
  obtain ⟨kv,rfl,_,_,_,a,k,rfl,_⟩:=RdT.iff.1 hcs
  refine aj (v:=.agg _) rfl ?_
  refine aj (v:=.int .i64 (m:Int)) rfl ?_
  refine aD hI aQ fun b10 w' hI=>?_
  refine aq hI 1 rfl ac rfl rfl (by simp [Value.oneCell']) fun w' hI=>?_
  refine eO (by omega) ?_
  refine az (fun hb=>by cases hb) (fun _=>?_)
  refine Run.callPure cV cZ hI (cN s m 93 S2) fun w' hI=>?_
  refine bK ?_
  rw [h5]
  refine az (fun hb=>by cases hb) (fun _=>?_)
  refine ao hI 1 ac rfl rfl ?_
  refine Run.call0E wX wd hI (sm (hu.monoT hE2.1) hcs (by omega)) fun v I' S3 w'=>?_
  rintro ⟨rfl,ds,rfl,hds⟩ hE3 hI
  refine eN (a:=m) (b:=1) rfl rfl (by omega) ?_
  obtain ⟨kv,rfl,_,_,_,a,k,rfl,_⟩:=RdT.iff.1 hds
  refine aq hI 0 rfl ac rfl rfl (by simp [Value.oneCell']) fun w' hI=>?_
  refine aU hI 0 ac rfl rfl ?_
  exact ⟨_,[],S3,rfl,hI.nil,(hE1.trans hE2).trans hE3,rfl,_,rfl,hds⟩
theorem Hv {n:Bs} (h:n.length<=6):(st n).size<=maxLen:=by rw [kw]; simp only [maxLen]; omega
theorem PM {f:Nat} (ihR:∀ g,g<f->qL g) (ihT:∀ g,g<f->vN g):GU f:=by
 intro s i d t n S h hs hi hd w hI
 cases f with
 | zero=>simp [tF] at h
 | succ g=>
 have hR:=ihR g (by omega)
 have hT:=ihT g (by omega)
 have hle:=(gS (g+1)).2.2.1 _ _ _ _ _ h
 rw [tF] at h
 split at h
 ·cases h
 rename_i h0
 have hd0:1<=d:=by omega
 have hlt:i<s.length:=by omega
 refine xf.2 ?_
 dsimp only[xf,cW]
 refine aD hI aQ fun b6 w' hI=>?_
 have hI:Inv w [] [.blk b6 (.cells #[.int .i64 0,.int .i64 0,.string ⟨#[]⟩,.slice none 0 0] ab)] S w':=hI
 refine ⟨fun b w'=>b=.bool false/\Inv w [] [.blk b6 (.cells #[.int .i64 0,.int .i64 0,.string ⟨#[]⟩,.slice none 0 0] ab)] S w',?_,?_⟩
 ·refine eO (by omega) ?_
  refine rpG ?_
  refine fA aT ?_
  refine xR (by omega) ?_
  refine rpG ?_
  exact ⟨rfl,hI⟩
 intro t23 _ _ _ _ _ _ _ w'
 rintro ⟨rfl,hI⟩
 refine az (fun hb=>by cases hb) (fun _=>?_)
 refine eA aT hlt ?_
 split at h
 ·rename_i h40
  rw [lp hlt,decide_eq_true_eq] at h40
  refine fL (by omega) ?_
  refine az (fun _=>?_) (fun hb=>by cases hb)
  split at h
  ·cases h
  rename_i u m hr
  split at h
  ·rename_i h41
   simp only [Option.some.injEq,Prod.mk.injEq] at h
   obtain ⟨rfl,rfl⟩:=h
   have hle2:=(gS g).1 _ _ _ _ _ _ hr
   refine eN (a:=i) (b:=1) rfl rfl (by omega) ?_
   refine Run.call0E ft fx hI (hR s (i+1) d 3 u m S hr hs (by omega) hd (by omega)) fun v I' S2 w'=>?_
   rintro ⟨rfl,cs,rfl,hcs⟩ hE2 hI
   obtain ⟨kv,rfl,_,_,_,a,k,rfl,_⟩:=RdT.iff.1 hcs
   refine aj (v:=.agg _) rfl ?_
   refine aj (v:=.int .i64 (m:Int)) rfl ?_
   refine aD hI aQ fun b8 w' hI=>?_
   refine aq hI 1 rfl ac rfl rfl (by simp [Value.oneCell']) fun w' hI=>?_
   refine eO (by omega) ?_
   refine az (fun hb=>by cases hb) (fun _=>?_)
   refine Run.callPure cV cZ hI (cN s m 41 S2) fun w' hI=>?_
   refine bK ?_
   rw [h41]
   refine az (fun hb=>by cases hb) (fun _=>?_)
   refine ao hI 1 ac rfl rfl ?_
   refine eN (a:=m) (b:=1) rfl rfl (by omega) ?_
   refine aq hI 0 rfl ac rfl rfl (by simp [Value.oneCell']) fun w' hI=>?_
   refine aU hI 0 ac rfl rfl ?_
   exact ⟨_,[],S2,rfl,hI.nil,hE2,rfl,_,rfl,hcs⟩
  ·cases h
 rename_i h40
 rw [lp hlt,decide_eq_true_eq] at h40
 refine eD (by omega) ?_
 refine az (fun hb=>by cases hb) (fun _=>?_)
 refine ⟨fun b w'=>b=.bool (sgn s i 91 && !sgn s (i+1) 93)/\Inv w [] [.blk b6 (.cells #[.int .i64 0,.int .i64 0,.string ⟨#[]⟩,.slice none 0 0] ab)] S w',?_,?_⟩
 ·refine eA aT hlt ?_
  by_cases h91:s[i].toNat=91
  ·refine fL (by omega) ?_
   refine rpG ?_
   refine eN (a:=i) (b:=1) rfl rfl (by omega) ?_
   refine Run.callPure cV cZ hI (cN s (i+1) 93 S) fun w' hI=>?_
   refine bK ?_
   refine rpG ?_
   exact ⟨by rw [lp hlt,decide_eq_true h91,Bool.true_and],hI⟩
  ·refine eD (by omega) ?_
   refine rpG ?_
   exact ⟨by rw [lp hlt,decide_eq_false h91,Bool.false_and],hI⟩
 intro t65 _ _ _ _ _ _ _ _ _ _ w'
 rintro ⟨rfl,hI⟩
 split at h
 ·rename_i h91
  rw [h91.1,h91.2]
  refine az (fun _=>?_) (fun hb=>by cases hb)
  split at h
  ·cases h
  rename_i ts m hts
  have h2:(sgn s m 93=true/\t=i4 ts R7/\n=m+1) ∨ (sgn s m 93=false/\∃ u k,io g s (m+1) (d - 1) 3=some (u,k)/\sgn s k 93=true/\t=i4 ts u/\n=k+1):=by
   split at h
   ·rename_i h3
    simp only [Option.some.injEq,Prod.mk.injEq] at h
    exact .inl ⟨h3,h.1.symm,h.2.symm⟩
   ·rename_i h3
    split at h
    ·cases h
    rename_i u k hr
    split at h
    ·rename_i h4
     simp only [Option.some.injEq,Prod.mk.injEq] at h
     exact .inr ⟨Bool.eq_false_iff.2 h3,u,k,hr,h4,h.1.symm,h.2.symm⟩
    ·cases h
  refine eN (a:=i) (b:=1) rfl rfl (by omega) ?_
  refine BG (a:=d) (b:=1) rfl rfl hd0 (by omega) ?_
  refine Run.call0E HG Gp hI (IF hT hR hts h2 hs (by omega) (by omega) S) fun v I' S2 w'=>?_
  rintro ⟨rfl,cs,rfl,hcs⟩ hE2 hI
  obtain ⟨kv,rfl,_,_,_,a,k,rfl,_⟩:=RdT.iff.1 hcs
  refine aj (v:=.agg _) rfl ?_
  refine aj (v:=.int .i64 (n:Int)) rfl ?_
  refine aq hI 0 rfl ac rfl rfl (by simp [Value.oneCell']) fun w' hI=>?_
  refine aU hI 0 ac rfl rfl ?_
  exact ⟨_,[],S2,rfl,hI.nil,hE2,rfl,_,rfl,hcs⟩
 rename_i h91
 have e91:(sgn s i 91 && !sgn s (i+1) 93)=false:=by
  cases h5:sgn s i 91
  ·rfl
  ·cases h6:sgn s (i+1) 93
   ·exact absurd ⟨h5,h6⟩ h91
   ·rfl
 rw [e91]
 refine az (fun hb=>by cases hb) (fun _=>?_)
 refine ⟨fun b w'=>b=.bool (upp s i)/\Inv w [] [.blk b6 (.cells #[.int .i64 0,.int .i64 0,.string ⟨#[]⟩,.slice none 0 0] ab)] S w',?_,?_⟩
 ·refine eA aT hlt ?_
  by_cases h65:65<=s[i].toNat
  ·refine oj (by omega) ?_
   refine rpG ?_
   refine eA aT hlt ?_
   refine eC ?_
   refine rpG ?_
   refine ⟨?_,hI⟩
   rw [upp,oI hlt,decide_eq_true h65,Bool.true_and]
   congr 1
   rw [decide_eq_decide]
   omega
  ·refine xR (by omega) ?_
   refine rpG ?_
   exact ⟨by rw [upp,oI hlt,decide_eq_false h65,Bool.false_and],hI⟩
 intro t83 _ _ _ _ _ _ _ _ _ w'
 rintro ⟨rfl,hI⟩
 split at h
 ·rename_i hup
  simp only [Option.some.injEq,Prod.mk.injEq] at h
  obtain ⟨rfl,rfl⟩:=h
  rw [hup]
  rw [upp,oI hlt,Bool.and_eq_true,decide_eq_true_eq,decide_eq_true_eq] at hup
  refine az (fun _=>?_) (fun hb=>by cases hb)
  refine eA aT hlt ?_
  refine PE (c:=(s[i].toNat:Int) - 65) (IntWalk.u8_in _ (by omega)) ?_
  refine qT ge fj (IntWalk.i64_in _ (by omega)) ?_
  refine Run.callPure BU Dh hI (r9 _ S) fun w' hI=>?_
  refine eN (a:=i) (b:=1) rfl rfl (by omega) ?_
  refine aq hI 0 rfl ac rfl rfl (by simp [Value.oneCell']) fun w' hI=>?_
  refine aU hI 0 ac rfl rfl ?_
  have eg:((s.getD i 0).toNat:Int) - 65=(s[i].toNat:Int) - 65:=by rw [List.getD_eq_getElem?_getD,List.getElem?_eq_getElem hlt]; rfl
  rw [eg]
  exact ⟨_,[],S,rfl,hI.nil,Ext.refl _ _ _,rfl,_,rfl,RdT.nil (by simp [inI]) (by unfold inI; omega) (by decide +kernel) (Nat.zero_le _)⟩
 rename_i hup
 rw [Bool.eq_false_iff.2 hup]
 refine az (fun hb=>by cases hb) (fun _=>?_)
 refine ⟨fun b w'=>b=.bool (dig s i || (sgn s i 45 && dig s (i+1)))/\Inv w [] [.blk b6 (.cells #[.int .i64 0,.int .i64 0,.string ⟨#[]⟩,.slice none 0 0] ab)] S w',?_,?_⟩
 ·refine Run.callPure kr j8 hI (gR s i S) fun w' hI=>?_
  cases hdi:dig s i
  ·refine rpG ?_
   refine eA aT hlt ?_
   by_cases h45:s[i].toNat=45
   ·refine fL (by omega) ?_
    refine rpG ?_
    refine eN (a:=i) (b:=1) rfl rfl (by omega) ?_
    refine Run.callPure kr j8 hI (gR s (i+1) S) fun w' hI=>?_
    refine rpG ?_
    exact ⟨by rw [lp hlt,decide_eq_true h45,Bool.true_and,Bool.false_or],hI⟩
   ·refine eD (by omega) ?_
    refine rpG ?_
    exact ⟨by rw [lp hlt,decide_eq_false h45,Bool.false_and,Bool.false_or],hI⟩
  ·refine rpG ?_
   exact ⟨by rw [Bool.true_or],hI⟩
 intro t106 _ _ _ _ _ _ _ _ _ _ _ _ _ _ w'
 rintro ⟨rfl,hI⟩
 split at h
 ·rename_i hdg
  have:(dig s i || (sgn s i 45 && dig s (i+1)))=true:=by rw [Bool.or_eq_true,Bool.and_eq_true]; exact hdg
  rw [this]
  refine az (fun _=>?_) (fun hb=>by cases hb)
  obtain ⟨k,hk,rfl,_,_,hnum⟩:=C7 h (by omega) S
  refine Run.callPure Eo Eu hI hnum fun w' hI=>?_
  refine aj (v:=CW 2 k) rfl ?_
  refine aj (v:=.int .i64 (n:Int)) rfl ?_
  refine aD hI aQ fun b10 w' hI=>?_
  refine aq hI 1 rfl ac rfl rfl (by simp [Value.oneCell']) fun w' hI=>?_
  refine eO (by omega) ?_
  refine az (fun hb=>by cases hb) (fun _=>?_)
  refine ao hI 1 ac rfl rfl ?_
  refine aq hI 0 rfl ac rfl rfl (by simp [Value.oneCell']) fun w' hI=>?_
  refine aU hI 0 ac rfl rfl ?_
  exact ⟨_,[],S,rfl,hI.nil,Ext.refl _ _ _,rfl,_,rfl,RdT.nil (by simp [inI]) hk (by decide +kernel) (Nat.zero_le _)⟩
 rename_i hdg
 have:(dig s i || (sgn s i 45 && dig s (i+1)))=false:=by
  rw [Bool.eq_false_iff,ne_eq,Bool.or_eq_true,Bool.and_eq_true]; exact hdg
 rw [this]
 refine az (fun hb=>by cases hb) (fun _=>?_)
 refine Run.callPure y4 ze hI (wM hlt hs S) fun w' hI=>?_
 cases hnm:wo s i with
 | none=>rw [hnm] at h; cases h
 | some q=>
 obtain ⟨name,m⟩:=q
 rw [hnm] at h
 simp only [] at h
 simp only [NC]
 have hnl:=wU hlt hnm
 refine aj (v:=.string (st name)) rfl ?_
 refine aj (v:=.int .i64 (m:Int)) rfl ?_
 refine eO (by omega) ?_
 refine az (fun hb=>by cases hb) (fun _=>?_)
 refine Run.callPure cV cZ hI (cN s m 40 S) fun w' hI=>?_
 refine bK ?_
 split at h
 ·rename_i h40'
  simp only [Option.some.injEq,Prod.mk.injEq] at h
  obtain ⟨rfl,rfl⟩:=h
  rw [h40']
  refine az (fun _=>?_) (fun hb=>by cases hb)
  refine Run.call0E dr dv hI (dP (st name) (Hv hnl.2.2.1) (jf S) (by simp)) fun v I' S2 w'=>?_
  rintro ⟨rfl,cs,rfl,hcs⟩ hE2 hI
  obtain ⟨kv,rfl,_,_,_,a,k,rfl,_⟩:=RdT.iff.1 hcs
  refine aq hI 0 rfl ac rfl rfl (by simp [Value.oneCell']) fun w' hI=>?_
  refine aU hI 0 ac rfl rfl ?_
  exact ⟨_,[],S2,rfl,hI.nil,hE2,rfl,_,rfl,hcs⟩
 ·rename_i h40'
  rw [Bool.not_eq_false] at h40'
  rw [h40']
  refine az (fun hb=>by cases hb) (fun _=>?_)
  split at h
  ·cases h
  rename_i ts k hts
  simp only [Option.some.injEq,Prod.mk.injEq] at h
  obtain ⟨rfl,rfl⟩:=h
  have hm:=ib h40'
  have hle2:=(gS g).2.2.2 _ _ _ _ _ _ _ _ hts
  refine eN (a:=m) (b:=1) rfl rfl (by omega) ?_
  refine BG (a:=d) (b:=1) rfl rfl hd0 (by omega) ?_
  refine Run.call0E vU xr hI (hT s (m+1) (d - 1) 41 41 ts k S hts hs (by omega) (by omega)) fun v I' S2 w'=>?_
  rintro ⟨rfl,u,rfl,hu⟩ hE2 hI
  refine aj (v:=u) rfl ?_
  refine aj (v:=.int .i64 (k:Int)) rfl ?_
  refine eO (by omega) ?_
  refine az (fun hb=>by cases hb) (fun _=>?_)
  obtain ⟨a,c,rfl,_⟩:=id hu
  refine tA ⟨_,_,_,rfl⟩ ?_
  refine eN (a:=k) (b:=1) rfl rfl (by omega) ?_
  refine aq hI 0 rfl ac rfl rfl (by simp [Value.oneCell']) fun w' hI=>?_
  refine aU hI 0 ac rfl rfl ?_
  exact ⟨_,[],S2,rfl,hI.nil,hE2,rfl,_,rfl,RdT.iff.2 ⟨_,rfl,by simp [inI,T.kind,JT],by simp [inI,T.n,JT],Hv hnl.2.2.1,hu⟩⟩
theorem Qw {f:Nat} (ihR:∀ g,g<f->qL g) (ihP:∀ g,g<f->GU g):qL f:=by
 intro s i d l t n S h hs hi hd hl w hI
 cases f with
 | zero=>simp [io] at h
 | succ f=>
 refine yW.2 ?_
 dsimp only[yW,tj]
 refine aD hI aQ fun b8 w' hI=>?_
 have hI:Inv w [] [.blk b8 (.cells #[.int .i64 0,.int .i64 0,.string ⟨#[]⟩,.slice none 0 0] ab)] S w':=hI
 cases l with
 | zero=>
  rw [io] at h
  refine fL rfl ?_
  refine az (fun _=>?_) (fun hb=>by cases hb)
  refine Run.call0E Hf GE hI (ihP f (by omega) s i d t n S h hs hi hd) fun v I' S2 w'=>?_
  rintro ⟨rfl,cs,rfl,hcs⟩ hE2 hI
  obtain ⟨kv,rfl,_,_,_,a,k,rfl,_⟩:=RdT.iff.1 hcs
  refine aj (v:=.agg _) rfl ?_
  refine aj (v:=.int .i64 (n:Int)) rfl ?_
  refine aq hI 0 rfl ac rfl rfl (by simp [Value.oneCell']) fun w' hI=>?_
  refine aU hI 0 ac rfl rfl ?_
  exact ⟨_,[],S2,rfl,hI.nil,hE2,rfl,_,rfl,hcs⟩
 | succ l=>
  rw [io] at h
  split at h
  ·cases h
  rename_i t0 n0 hr
  have hle:=(gS f).1 _ _ _ _ _ _ hr
  refine eD (by omega) ?_
  refine az (fun hb=>by cases hb) (fun _=>?_)
  refine BG (a:=l+1) (b:=1) rfl rfl (by omega) (by omega) ?_
  rw [Nat.add_sub_cancel]
  refine Run.call0E ft fx hI (ihR f (by omega) s i d l t0 n0 S hr hs hi hd (by omega)) fun v I' S1 w'=>?_
  rintro ⟨rfl,cs,rfl,hcs⟩ hE1 hI
  obtain ⟨kv,rfl,_,_,_,a,k,rfl,_⟩:=RdT.iff.1 hcs
  refine aj (v:=.agg _) rfl ?_
  refine aj (v:=.int .i64 (n0:Int)) rfl ?_
  refine aD hI aQ fun b10 w' hI=>?_
  refine aq hI 1 rfl ac rfl rfl (by simp [Value.oneCell']) fun w' hI=>?_
  refine ⟨fun a w'=>∃ (f' n':Nat) (t':T) (ds:List Value) (S1:ae),f'<=f/\a=.int .i64 (n':Int)/\n'<=s.length/\JS f' s n' d l t'=some (t,n)/\Ext w.heap.size [] S S1/\RdT S1 ds t'/\Inv w [] [.blk b8 (.cells #[.int .i64 0,.int .i64 0,.string ⟨#[]⟩,.slice none 0 0] ab),.blk b10 (.cells ds.toArray ab)] S1 w',
   fun a _=>s.length+1 - (intOf a).toNat,⟨f,n0,t0,_,S1,Nat.le_refl _,rfl,hle.2,h,hE1,hcs,hI⟩,?_⟩
  clear h hE1 hcs hI hr hle
  intro _ _ _ _ t11 _ _ _ _ _ _ _ _ _ _ _ _ _ _ _ _ _ _ _ _ _ _ _ _ _ _ _ _ _ _ _ _ _ _ _ _ _ _ _ _ _ _ w'
  rintro ⟨f',n',t',ds,S1,hf',rfl,hn',ho,hE,hds,hI⟩
  obtain ⟨kd,rfl,_,_,hts',da,dm,rfl,_⟩:=RdT.iff.1 hds
  cases f' with
  | zero=>simp [JS] at ho
  | succ g=>
  rw [JS] at ho
  refine oj (by omega) ?_
  refine az (fun _=>?_) (fun hb=>by cases hb)
  refine Run.callPure N5 NU hI (K6 hs hn' S1) fun w' hI=>?_
  cases hop:opF s n' with
  | none=>
   rw [hop] at ho
   simp only [Option.some.injEq,Prod.mk.injEq] at ho
   obtain ⟨rfl,rfl⟩:=ho
   simp only [opV]
   refine aj (v:=.string ⟨#[]⟩) rfl ?_
   refine aj (v:=.int .i64 (n':Int)) rfl ?_
   refine ⟨fun b w'=>b=.bool true/\Inv w [] [.blk b8 (.cells #[.int .i64 0,.int .i64 0,.string ⟨#[]⟩,.slice none 0 0] ab),.blk b10 (.cells #[.int .i64 t'.kind,.int .i64 t'.n,.string t'.name,.slice da t'.kids.length dm] ab)] S1 w',?_,?_⟩
   ·refine bg ?_
    rw [decide_eq_true rfl]
    refine rpG ?_
    exact ⟨rfl,hI⟩
   intro t48 _ _ _ _ _ _ _ w'
   rintro ⟨rfl,hI⟩
   refine az (fun _=>?_) (fun hb=>by cases hb)
   refine ao hI 1 ac rfl rfl ?_
   refine aq hI 0 rfl ac rfl rfl (by simp [Value.oneCell']) fun w' hI=>?_
   refine aU hI 0 ac rfl rfl ?_
   exact ⟨_,[],S1,rfl,hI.nil,hE,rfl,_,rfl,hds⟩
  | some q=>
   obtain ⟨name,after⟩:=q
   rw [hop] at ho
   simp only [] at ho
   simp only [opV]
   have hol:=P2 hop
   refine aj (v:=.string (st name)) rfl ?_
   refine aj (v:=.int .i64 (after:Int)) rfl ?_
   refine ⟨fun b w'=>b=.bool (!decide (cn (st name)=((l+1:Nat):Int)))/\Inv w [] [.blk b8 (.cells #[.int .i64 0,.int .i64 0,.string ⟨#[]⟩,.slice none 0 0] ab),.blk b10 (.cells #[.int .i64 t'.kind,.int .i64 t'.n,.string t'.name,.slice da t'.kids.length dm] ab)] S1 w',?_,?_⟩
   ·refine Ca (b:=[]) ?_
    rw [decide_eq_false hol.2.2.2]
    refine rpG ?_
    refine Run.callPure eH eJ hI (dI _ S1) fun w' hI=>?_
    refine cD ?_
    refine rpG ?_
    exact ⟨rfl,hI⟩
   intro t48 _ _ _ _ _ _ _ w'
   rintro ⟨rfl,hI⟩
   split at ho
   ·rename_i hlv
    rw [decide_eq_true hlv]
    refine az (fun hb=>by cases hb) (fun _=>?_)
    split at ho
    ·cases ho
    rename_i r e hr
    have hle:=(gS g).1 _ _ _ _ _ _ hr
    refine BG (a:=l+1) (b:=1) rfl rfl (by omega) (by omega) ?_
    rw [Nat.add_sub_cancel]
    refine Run.call0E ft fx hI (ihR g (by omega) s after d l r e S1 hr hs (by omega) hd (by omega)) fun v I' S2 w'=>?_
    rintro ⟨rfl,es,rfl,hes⟩ hE2 hI
    obtain ⟨ke,rfl,_,_,_,ea,em,rfl,_⟩:=RdT.iff.1 hes
    refine aj (v:=.agg _) rfl ?_
    refine aj (v:=.int .i64 (e:Int)) rfl ?_
    refine aD hI aQ fun b14 w' hI=>?_
    refine aq hI 2 rfl ac rfl rfl (by simp [Value.oneCell']) fun w' hI=>?_
    refine eO (by omega) ?_
    refine az (fun hb=>by cases hb) (fun _=>?_)
    refine ao hI 1 ac rfl rfl ?_
    refine ao hI 2 ac rfl rfl ?_
    refine rg (v:=fun b=>.slice (some ⟨b,0,none⟩) 2 2) (o:=.cells #[.int .i64 t'.kind,.int .i64 t'.n,.string t'.name,.slice da t'.kids.length dm,.int .i64 r.kind,.int .i64 r.n,.string r.name,.slice ea r.kids.length em] ab) hI (by kernel_rfl) fun b20 w' hI=>?_
    obtain ⟨S3,hI,hE3,hS3⟩:=Inv.pub1 (A:=[_,_,_]) hI
    have hks:=Le hS3 (RdT.mono (hE2.1.trans hE3.1) hds) (RdT.mono hE3.1 hes)
    refine Run.call0E dr dv hI (dP (st name) (Hv hol.2.2.1) hks (by simp)) fun v I' S4 w'=>?_
    rintro ⟨rfl,gs,rfl,hgs⟩ hE4 hI
    obtain ⟨kg,rfl,_,_,_,ga,gm,rfl,_⟩:=RdT.iff.1 hgs
    have hE':=((hE.trans hE2).trans hE3).trans hE4
    refine aq hI 1 rfl ac rfl rfl (by simp [Value.oneCell']) fun w' hI=>?_
    split at ho
    ·rename_i hl2
     subst hl2
     simp only [Option.some.injEq,Prod.mk.injEq] at ho
     obtain ⟨rfl,rfl⟩:=ho
     refine fL rfl ?_
     refine az (fun _=>?_) (fun hb=>by cases hb)
     refine ao hI 1 ac rfl rfl ?_
     refine aq hI 0 rfl ac rfl rfl (by simp [Value.oneCell']) fun w' hI=>?_
     refine aU hI 0 ac rfl rfl ?_
     exact ⟨_,[],S4,rfl,hI.nil,hE',rfl,_,rfl,hgs⟩
    ·refine eD (by omega) ?_
     refine az (fun hb=>by cases hb) (fun _=>?_)
     refine ⟨⟨g,e,_,_,S4,by omega,rfl,hle.2,ho,hE',hgs,hI.pick [true,true,false]⟩,?_⟩
     simp only [intOf,Int.toNat_natCast]
     omega
   ·rename_i hlv
    rw [decide_eq_false hlv]
    simp only [Option.some.injEq,Prod.mk.injEq] at ho
    obtain ⟨rfl,rfl⟩:=ho
    refine az (fun _=>?_) (fun hb=>by cases hb)
    refine ao hI 1 ac rfl rfl ?_
    refine aq hI 0 rfl ac rfl rfl (by simp [Value.oneCell']) fun w' hI=>?_
    refine aU hI 0 ac rfl rfl ?_
    exact ⟨_,[],S1,rfl,hI.nil,hE,rfl,_,rfl,hds⟩
theorem Pi:∀ F f,f<F->qL f/\GU f/\vN f
 | 0,f,h=>by omega
 | F+1,f,h=>by
  have ih:=Pi F
  have hR:qL f:=Qw (fun g hg=>(ih g (by omega)).1) (fun g hg=>(ih g (by omega)).2.1)
  have hT:vN f:=Pn fun g hg=>(ih g (by omega)).1
  exact ⟨hR,PM (fun g hg=>(ih g (by omega)).1) (fun g hg=>(ih g (by omega)).2.2),hT⟩
theorem yo (f:Nat):qL f:=(Pi (f+1) f (by omega)).1
end

end Go.Proofs.YtfcbhfjomgopbaaGreat
