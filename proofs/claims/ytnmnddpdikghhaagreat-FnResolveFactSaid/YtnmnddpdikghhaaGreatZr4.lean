/- Texts read: spec.l1Struct, l1Chain, l2Read, l2Prime, l2Terms, l2Items. (printed by gen_read.py) -/
import Derived.Test.YtnmnddpdikghhaaGreatZr3
import Derived.Test.YtnmnddpdikghhaaGreatZr2
namespace Go.Proofs.YtnmnddpdikghhaaGreat
open Go Go.RowKit
theorem KU {s:Bs} {i e:Nat} {t:T} (hn:KD s i=some (t,e)):i<e/\e<=s.length:=by
 unfold KD at hn
 obtain ⟨fr,hfr⟩:∃ fr,fr=if sgn s i 45=true then i+1 else i:=⟨_,rfl⟩
 simp only [<- hfr] at hn
 have hle:=Cx s 4 fr
 have hfi:i<=fr/\fr<=i+1:=by rw [hfr]; split <;> omega
 split at hn
 ·cases hn
 rename_i hc
 simp only [not_or] at hc
 simp only [Option.some.injEq,Prod.mk.injEq] at hn
 obtain ⟨_,rfl⟩:=hn
 have h2:fr<pb s 4 fr:=by
  rcases Nat.lt_or_ge fr (pb s 4 fr) with h|h
  ·exact h
  ·refine absurd ?_ hc.1
   rw [cut,List.drop_eq_nil_of_le]
   rw [List.length_take]
   omega
 have:=zn (sz s 4 fr (pb s 4 fr - 1) (by omega) (by omega))
 omega
theorem gS:∀ f:Nat,(∀ s i d l t n,jd f s i d l=some (t,n)->i<n/\n<=s.length)/\(∀ s i d l t0 t n,Fj f s i d l t0=some (t,n)->i<=s.length->i<=n/\n<=s.length)/\
  (∀ s i d t n,p9 f s i d=some (t,n)->i<n/\n<=s.length)/\(∀ s i d e o acc ts n,ie f s i d e o acc=some (ts,n)->i<n/\n<s.length)
 | 0=>⟨fun s i d l t n h=>by simp [jd] at h,fun s i d l t0 t n h=>by simp [Fj] at h,fun s i d t n h=>by simp [p9] at h,fun s i d e o acc ts n h=>by simp [ie] at h⟩
 | f+1=>by
  obtain ⟨h1,h2,h3,h4⟩:=gS f
  refine ⟨fun s i d l t n h=>?_,fun s i d l t0 t n h hi=>?_,fun s i d t n h=>?_,fun s i d e o acc ts n h=>?_⟩
  ·cases l with
   | zero=>rw [jd] at h; exact h3 _ _ _ _ _ h
   | succ l=>
    rw [jd] at h
    split at h
    ·cases h
    ·rename_i t' n' hr
     have a:=h1 _ _ _ _ _ _ hr
     have b:=h2 _ _ _ _ _ _ _ h a.2
     omega
  ·rw [Fj] at h
   split at h
   ·simp only [Option.some.injEq,Prod.mk.injEq] at h
    omega
   ·rename_i name after ho
    have a:=KF ho
    split at h
    ·split at h
     ·cases h
     ·rename_i r e hr
      have b:=h1 _ _ _ _ _ _ hr
      split at h
      ·simp only [Option.some.injEq,Prod.mk.injEq] at h
       omega
      ·have c:=h2 _ _ _ _ _ _ _ h b.2
       omega
    ·simp only [Option.some.injEq,Prod.mk.injEq] at h
     omega
  ·rw [p9] at h
   split at h
   ·cases h
   rename_i h0
   have h0:i<s.length:=by omega
   split at h
   ·split at h
    ·cases h
    ·rename_i t' n' hr
     have a:=h1 _ _ _ _ _ _ hr
     split at h
     ·rename_i hs
      have:=ic hs
      simp only [Option.some.injEq,Prod.mk.injEq] at h
      omega
     ·cases h
   ·split at h
    ·split at h
     ·cases h
     ·rename_i ts n' hr
      have a:=h4 _ _ _ _ _ _ _ _ hr
      split at h
      ·simp only [Option.some.injEq,Prod.mk.injEq] at h
       omega
      ·split at h
       ·cases h
       ·rename_i t' e hr2
        have b:=h1 _ _ _ _ _ _ hr2
        split at h
        ·rename_i hs
         have:=ic hs
         simp only [Option.some.injEq,Prod.mk.injEq] at h
         omega
        ·cases h
    ·split at h
     ·simp only [Option.some.injEq,Prod.mk.injEq] at h
      omega
     ·split at h
      ·exact KU h
      ·split at h
       ·cases h
       ·rename_i name n' hn
        have a:=rA h0 hn
        split at h
        ·simp only [Option.some.injEq,Prod.mk.injEq] at h
         omega
        ·split at h
         ·cases h
         ·rename_i ts e hr
          have b:=h4 _ _ _ _ _ _ _ _ hr
          simp only [Option.some.injEq,Prod.mk.injEq] at h
          omega
  ·rw [ie] at h
   split at h
   ·cases h
   ·rename_i t' n' hr
    have a:=h1 _ _ _ _ _ _ hr
    split at h
    ·rename_i hs
     have hlt:n'<s.length:=hs.elim ic ic
     simp only [Option.some.injEq,Prod.mk.injEq] at h
     omega
    ·split at h
     ·have b:=h4 _ _ _ _ _ _ _ _ h
      omega
     ·cases h
abbrev LY (t:T):Value->List Item->ay->Prop:=fun v I' S'=>I'=[]/\∃ cs,v=.agg cs.toArray/\RdT S' cs t
abbrev Kf (t:T) (n:Nat):Value->List Item->ay->Prop:=fun v I' S'=>I'=[]/\∃ cs,v=.tuple #[.agg cs.toArray,.int .i64 (n:Int)]/\RdT S' cs t
abbrev Ld (ts:List T) (n:Nat):Value->List Item->ay->Prop:=fun v I' S'=>I'=[]/\∃ u,v=.tuple #[u,.int .i64 (n:Int)]/\RdSl S' 4 (RdT S') u ts
theorem lL (S:ay):RdSl S 4 (RdT S) (.slice none 0 0) []:=⟨none,0,rfl,Nat.le_refl _,Nat.zero_le _,.inl rfl⟩
theorem FS {S:ay} {b:Nat} {E:TypeId} {a c:T} {k1 n1 k2 n2:Int} {s1 s2:ByteArray} {v1 v2:Value} (hS:S b=some (.cells #[.int .i64 k1,.int .i64 n1,.string s1,v1,.int .i64 k2,.int .i64 n2,.string s2,v2] E))
  (h1:RdT S [.int .i64 k1,.int .i64 n1,.string s1,v1] a) (h2:RdT S [.int .i64 k2,.int .i64 n2,.string s2,v2] c):RdSl S 4 (RdT S) (.slice (some ⟨b,0,none⟩) 2 2) [a,c]:=by
 refine ⟨_,2,rfl,Nat.le_refl _,by simp [maxLen],.inr ⟨b,0,_,E,(0,0),rfl,hS,fun i hi=>?_⟩⟩
 match i,hi with
 | 0,_=>exact h1
 | 1,_=>exact h2
section
variable {w w0:World} {X:List Nat} {L:List Item} {S:ay} {K:Value->World->Prop}
attribute [local irreducible] Run CondV ai a4
theorem eW {P:Program} {T:TypeId} {cx cy:Bool} {x y:Int} {a b:Nat} (hx:x=a) (hy:y=b) (hr:a+b<=1000000000000000) (hk:K (.int .i64 ((a+b:Nat):Int)) w):Run P (av .add T cx cy (.int .i64 x) (.int .i64 y)) w K:=by
 subst hx hy
 refine bR (by omega) ?_
 rw [<- Int.natCast_add]
 exact hk
theorem zi {P:Program} {T:TypeId} {cx cy:Bool} {x y:Int} {a b:Nat} (hx:x=a) (hy:y=b) (hle:b<=a) (hr:a<=1000000000000000) (hk:K (.int .i64 ((a - b:Nat):Int)) w):Run P (av .sub T cx cy (.int .i64 x) (.int .i64 y)) w K:=by
 subst hx hy
 refine lq (by omega) ?_
 rw [<- Int.ofNat_sub hle]
 exact hk
theorem pK {s:ByteArray} {v:Value} (hv:∃ p n m,v=.slice p n m) (hk:K (.agg #[.int .i64 3,.int .i64 0,.string s,v]) w):Run Tryz.prog (bP ab [(0,.int .i64 3),(2,.string s),(3,v)]) w K:=by
 obtain ⟨p,n,m,rfl⟩:=hv
 refine Run.of (v:=.agg #[.int .i64 3,.int .i64 0,.string s,.slice p n m]) (w':=w) ?_ hk
 unfold bP
 rw [Sem.run_bind,run_build w ab _ #[.int .i64 3,.int .i64 0,.string s,.slice p n m] (by kernel_rfl),Result.andThen_ok]
 rfl
theorem rz (s:ByteArray) {ks:List T} {u:Value} (h:RdSl S 4 (RdT S) u ks) (hk:ks.length<=1000000):Tri Tryz.prog ru [.string s,u] [] S fun v I' S'=>S'=S/\∃ kv css,v=.agg #[.int .i64 3,.int .i64 0,.string s,kv]/\I'=[a5 kv ab 4 css]/\Rows 4 (RdT S) css ks:=by
 intro w hI
 refine uI ?_
 unfold pT
 refine a9 hI bt fun b4 w' hI=>?_
 refine gN hI bC fun v0 w' hI=>?_
 have hI:Inv w [] [.blk b4 (.cells #[.int .i64 0,.int .i64 0,.string ⟨#[]⟩,.slice none 0 0] ab),a5 v0 ab 4 []] S w':=hI
 refine j3 hI 1 (css:=[]) bC (by omega) rfl h (fun _ _=>RdT.length) (fun _ _=>RdT.one) (by simp; omega) (by omega) fun v' w' css2 hR hI=>?_
 have hI:Inv w [] [.blk b4 (.cells #[.int .i64 0,.int .i64 0,.string ⟨#[]⟩,.slice none 0 0] ab),a5 v' ab 4 css2] S w':=hI
 obtain ⟨a,n,c,rfl⟩:=hI.rowSlice 1 rfl
 refine pK ⟨_,_,_,rfl⟩ ?_
 refine aM hI 0 rfl ag rfl rfl (by simp [Value.oneCell']) fun w' hI=>?_
 refine bA hI 0 ag rfl rfl ?_
 exact ⟨_,_,_,rfl,hI.sub (List.sublist_cons_self _ _),Ext.refl _ _ _,rfl,_,css2,rfl,rfl,hR⟩
theorem eO (s:ByteArray) (hs:s.size<=maxLen) {ks:List T} {u:Value} (h:RdSl S 4 (RdT S) u ks) (hk:ks.length<=1000000):Tri Tryz.prog ru [.string s,u] [] S (LY (.mk 3 0 s ks)):=by
 intro w hI
 refine (rz s h hk w hI).mono ?_
 rintro e w' ⟨v,I',S',rfl,hI,hE,rfl,kv,css,rfl,rfl,hR⟩
 obtain ⟨S1,hE1,hrd,hI⟩:=Inv.lendExt (A:=[]) hI
 have hrs:=RowRd.rows (hR.monoR fun _ _ h=>RdT.mono hE1.1 h) hrd
 exact ⟨_,[],S1,rfl,hI,hE.trans hE1,rfl,[.int .i64 3,.int .i64 0,.string s,kv],rfl,RdT.iff.2 ⟨kv,rfl,by simp [inI,T.kind],by simp [inI,T.n],hs,hrs⟩⟩
theorem Gz {ts:List T} {j:Nat} (h:j<ts.length) (t:T):iQ (ts.drop j) t=DX ts[j] (iQ (ts.drop (j+1)) t):=by
 rw [List.drop_eq_getElem_cons h,iQ]
theorem pI {ts:List T} {t:T} {u:Value} {cs:List Value} (h:RdSl S 4 (RdT S) u ts) (ht:RdT S cs t) (hl:ts.length<=1000000):Tri Tryz.prog DQ [u,.agg cs.toArray] [] S (LY (iQ ts t)):=by
 intro w hI
 obtain ⟨kv,rfl,g1,g2,g3,g4⟩:=RdT.iff.1 ht
 obtain ⟨ka,kn,kc,hkv⟩:∃ a n m,kv=.slice a n m:=by
  obtain ⟨a,m,e,_⟩:=g4
  exact ⟨_,_,_,e⟩
 refine wl ?_
 unfold tt
 refine bN hI fun b3 w' hI=>?_
 refine a9 hI bt fun b4 w' hI=>?_
 refine aO hI 0 ag rfl rfl ?_
 refine a9 hI bt fun b5 w' hI=>?_
 refine aM hI 2 rfl ag rfl rfl (by simp [Value.oneCell',Value.cells,hkv]) fun w' hI=>?_
 refine bm h aG ?_
 refine lq (by omega) ?_
 obtain ⟨B3,hB3⟩:∃ B3,B3=Item.blk b3 (.cells #[.int .i64 t.kind,.int .i64 t.n,.string t.name,kv] ab):=⟨_,rfl⟩
 have hI:Inv w [] [B3,.blk b4 (.cells #[.int .i64 0,.int .i64 0,.string ⟨#[]⟩,.slice none 0 0] ab),.blk b5 (.cells #[.int .i64 t.kind,.int .i64 t.n,.string t.name,kv] ab)] S w':=by rw [hB3]; exact hI
 refine ⟨fun i w'=>∃ (j:Nat) (S1:ay) (ds:List Value),j<=ts.length/\i=.int .i64 ((j:Int) - 1)/\Ext w.heap.size [] S S1/\RdT S1 ds (iQ (ts.drop j) t)/\Inv w [] [B3,.blk b4 (.cells #[.int .i64 0,.int .i64 0,.string ⟨#[]⟩,.slice none 0 0] ab),.blk b5 (.cells ds.toArray ab)] S1 w',
  fun i _=>(intOf i+1).toNat,⟨ts.length,S,_,Nat.le_refl _,rfl,Ext.refl _ _ _,by rw [List.drop_length]; exact ht,hI⟩,?_⟩
 intro t6 _ _ t21 t20 t19 t18 t17 t16 t15 _ _ w'
 rintro ⟨j,S1,ds,hj,rfl,hE,hds,hI⟩
 by_cases hj0:j=0
 ·subst hj0
  refine uH (by omega) ?_
  refine a7 (fun hb=>by cases hb) (fun _=>?_)
  obtain ⟨kv',rfl,_,_,_,a,m,rfl,_⟩:=RdT.iff.1 hds
  refine aO hI 2 ag rfl rfl ?_
  refine aM hI 1 rfl ag rfl rfl (by simp [Value.oneCell']) fun w' hI=>?_
  refine bA hI 1 ag rfl rfl ?_
  exact ⟨_,_,_,rfl,hI.nil,hE,rfl,_,rfl,hds⟩
 ·refine lJ (by omega) ?_
  refine a7 (fun _=>?_) (fun hb=>by cases hb)
  obtain ⟨m,rfl⟩:∃ m,j=m+1:=⟨j - 1,by omega⟩
  have hm:m<ts.length:=by omega
  have ej:((m+1:Nat):Int) - 1=(m:Int):=by omega
  rw [ej]
  obtain ⟨b,o,cap,c,E,fz,rfl,hS,hR⟩:=(h.monoT hE.1).at_ hm
  obtain ⟨ka',hca,_,_,_,aa,am,hka',_⟩:=RdT.iff.1 hR
  subst hka'
  obtain ⟨kd,rfl,_,_,_,da,dm,rfl,_⟩:=RdT.iff.1 hds
  obtain ⟨o1,ho1⟩:∃ o1,o1=iQ (ts.drop (m+1)) t:=⟨_,rfl⟩
  rw [<- ho1] at hds hI
  obtain ⟨a1,ha1⟩:∃ a1,a1=ts[m]:=⟨_,rfl⟩
  rw [<- ha1] at hR hca
  skip
  refine ⟨fun D df cC cz ef dD dV fh w_=>(D 0=true->fh=.slice (some ⟨b,o,none⟩) ts.length cap)/\(D 1=true->dV=.int .i64 (m:Int))/\(D 2=true->dD=.pointer (some ⟨b,o+m * 4,none⟩))/\(D 3=true->ef=.agg #[.int .i64 a1.kind,.int .i64 a1.n,.string a1.name,.slice aa a1.kids.length am])/\(D 4=true->cz=.agg #[.int .i64 o1.kind,.int .i64 o1.n,.string o1.name,.slice da o1.kids.length dm])/\(D 5=true->True)/\(D 6=true->True)/\(D 7=true->True)/\∃ S2 c6,Ext w.heap.size [] S1 S2/\(D 5=true->RdSl S2 4 (RdT S2) cC [a1,o1])/\(D 6=true->df=.agg c6.toArray/\RdT S2 c6 (DX a1 o1))/\(D 7=true->D 6=true)/\(D 6=true->D 5=true)/\(D 5=true->D 4=true)/\Inv w [] [B3,.blk b4 (.cells #[.int .i64 0,.int .i64 0,.string ⟨#[]⟩,.slice none 0 0] ab),.blk b5 (.cells (match D 7 with|true=>c6.toArray|false=>#[.int .i64 o1.kind,.int .i64 o1.n,.string o1.name,.slice da o1.kids.length dm]) ab)] S2 w_,⟨af,af,af,af,af,af,af,af,⟨S1,[],Ext.refl _ _ _,af,af,af,af,af,hI.draw⟩⟩,⟨?_,?_,?_,?_,?_,?_,?_,?_,trivial⟩,?_⟩
  ·intro D aS  df cC cz ef dD dV fh w_
   rintro ⟨aA,az,aB,ax,aD,aC,aw,aJ,⟨S2,c6,hE2,e5,e6,k7,k6,k5,hI⟩⟩
   exact ⟨fun _=>rfl,az,aB,ax,aD,aC,aw,aJ,⟨S2,c6,hE2,e5,e6,k7,k6,k5,hI⟩⟩
  ·intro D aS  df cC cz ef dD dV fh w_
   rintro ⟨aA,az,aB,ax,aD,aC,aw,aJ,⟨S2,c6,hE2,e5,e6,k7,k6,k5,hI⟩⟩
   exact ⟨aA,fun _=>rfl,aB,ax,aD,aC,aw,aJ,⟨S2,c6,hE2,e5,e6,k7,k6,k5,hI⟩⟩
  ·intro D aS cA iz df cC cz ef dD dV fh w_
   rintro ⟨aA,az,aB,ax,aD,aC,aw,aJ,⟨S2,c6,hE2,e5,e6,k7,k6,k5,hI⟩⟩
   obtain rfl:=aA cA
   obtain rfl:=az iz
   refine bq aG hm ?_
   exact ⟨aA,az,fun _=>rfl,ax,aD,aC,aw,aJ,⟨S2,c6,hE2,e5,e6,k7,k6,k5,hI⟩⟩
  ·intro D aS cM df cC cz ef dD dV fh w_
   rintro ⟨aA,az,aB,ax,aD,aC,aw,aJ,⟨S2,c6,hE2,e5,e6,k7,k6,k5,hI⟩⟩
   obtain rfl:=aB cM
   refine dF (cs:=[.int .i64 a1.kind,.int .i64 a1.n,.string a1.name,.slice aa a1.kids.length am]) ag rfl (fun j v hj=>by rw [hI.cellS (hE2.1 _ _ hS)]; exact bx hca j v hj) ?_
   exact ⟨aA,az,aB,fun _=>rfl,aD,aC,aw,aJ,⟨S2,c6,hE2,e5,e6,k7,k6,k5,hI⟩⟩
  ·intro D aS  df cC cz ef dD dV fh w_
   rintro ⟨aA,az,aB,ax,aD,aC,aw,aJ,⟨S2,c6,hE2,e5,e6,k7,k6,k5,hI⟩⟩
   have f5:D 5=false:=Bool.eq_false_iff.2 fun h=>by rw [k5 h] at aS; cases aS
   have f6:D 6=false:=Bool.eq_false_iff.2 fun h=>by rw [k6 h] at f5; cases f5
   have f7:D 7=false:=Bool.eq_false_iff.2 fun h=>by rw [k7 h] at f6; cases f6
   have hI0:=hI
   rw [f7] at hI
   refine aO hI 2 ag rfl rfl ?_
   have hI:=hI0
   have k5:=fun (_:ao D 4 5=true)=>(rfl:ao D 4 4=true)
   exact ⟨aA,az,aB,ax,fun _=>rfl,aC,aw,aJ,⟨S2,c6,hE2,e5,e6,k7,k6,k5,hI⟩⟩
  ·intro D aS dh eD df cC cz ef dD dV fh w_
   rintro ⟨aA,az,aB,ax,aD,aC,aw,aJ,⟨S2,c6,hE2,e5,e6,k7,k6,k5,hI⟩⟩
   obtain rfl:=ax dh
   obtain rfl:=aD eD
   have f6:D 6=false:=Bool.eq_false_iff.2 fun h=>by rw [k6 h] at aS; cases aS
   have f7:D 7=false:=Bool.eq_false_iff.2 fun h=>by rw [k7 h] at f6; cases f6
   rw [f7] at hI
   refine qL (v:=fun b=>.slice (some ⟨b,0,none⟩) 2 2) (o:=.cells #[.int .i64 a1.kind,.int .i64 a1.n,.string a1.name,.slice aa a1.kids.length am,.int .i64 o1.kind,.int .i64 o1.n,.string o1.name,.slice da o1.kids.length dm] ab) hI (by kernel_rfl) fun b20 w_ hI=>?_
   obtain ⟨S2,hI,hE3,hS3⟩:=Inv.pub1 (A:=[_,_,_]) hI
   have hE2:=hE2.trans hE3
   have hR':RdT S2 [.int .i64 a1.kind,.int .i64 a1.n,.string a1.name,.slice aa a1.kids.length am] a1:=by
    have:=RdT.mono hE2.1 hR
    rwa [hca] at this
   have e5:=fun (_:ao D 5 5=true)=>FS hS3 hR' (RdT.mono hE2.1 hds)
   have e6:=fun (h:D 6=true)=>(absurd h (by rw [f6]; decide):df=.agg c6.toArray/\RdT S2 c6 (DX a1 o1))
   have k6:=fun (_:ao D 5 6=true)=>(rfl:ao D 5 5=true)
   have k5:=fun (_:ao D 5 5=true)=>eD
   have hI:Inv w [] [B3,.blk b4 (.cells #[.int .i64 0,.int .i64 0,.string ⟨#[]⟩,.slice none 0 0] ab),.blk b5 (.cells (match D 7 with|true=>c6.toArray|false=>#[.int .i64 o1.kind,.int .i64 o1.n,.string o1.name,.slice da o1.kids.length dm]) ab)] S2 w_:=by
    rw [f7]
    exact hI
   exact ⟨aA,az,aB,ax,aD,fun _=>by first|assumption|trivial,aw,aJ,⟨S2,c6,hE2,e5,e6,k7,k6,k5,hI⟩⟩
  ·intro D aS dT df cC cz ef dD dV fh w_
   rintro ⟨aA,az,aB,ax,aD,aC,aw,aJ,⟨S2,c6,hE2,e5,e6,k7,k6,k5,hI⟩⟩
   have zK:=aC dT
   have f7:D 7=false:=Bool.eq_false_iff.2 fun h=>by rw [k7 h] at aS; cases aS
   rw [f7] at hI
   refine Run.call0E dZ d4 hI (eO ⟨#[46]⟩ (by decide +kernel) (e5 dT) (by simp)) fun v' I' S2 w_=>?_
   rintro ⟨rfl,c6,rfl,hc6⟩ hE3 hI
   have hE2:=hE2.trans hE3
   have e5:=fun (h:D 5=true)=>(e5 h).monoT hE3.1
   have e6:ao D 6 6=true->Value.agg c6.toArray=Value.agg c6.toArray/\RdT S2 c6 (DX a1 o1):=fun _=>⟨rfl,hc6⟩
   have k7:=fun (_:ao D 6 7=true)=>(rfl:ao D 6 6=true)
   have k6:=fun (_:ao D 6 6=true)=>dT
   have hI:Inv w [] [B3,.blk b4 (.cells #[.int .i64 0,.int .i64 0,.string ⟨#[]⟩,.slice none 0 0] ab),.blk b5 (.cells (match D 7 with|true=>c6.toArray|false=>#[.int .i64 o1.kind,.int .i64 o1.n,.string o1.name,.slice da o1.kids.length dm]) ab)] S2 w_:=by
    rw [f7]
    exact hI
   exact ⟨aA,az,aB,ax,aD,aC,fun _=>by first|assumption|trivial,aJ,⟨S2,c6,hE2,e5,e6,k7,k6,k5,hI⟩⟩
  ·intro D aS bW iL kS mL kN qx oV th ug df cC cz ef dD dV fh w_
   rintro ⟨aA,az,aB,ax,aD,aC,aw,aJ,⟨S2,c6,hE2,e5,e6,k7,k6,k5,hI⟩⟩
   have Fw:=aw bW
   obtain ⟨q6,hc6⟩:=e6 bW
   subst q6
   rw [aS] at hI
   have hone:=hc6.one
   have hlen:=hc6.length
   refine aM hI 2 rfl ag (by simpa using hlen) rfl (by simpa using hone) fun w_ hI=>?_
   have k7:=fun (_:ao D 7 7=true)=>bW
   exact ⟨aA,az,aB,ax,aD,aC,aw,fun _=>trivial,⟨S2,c6,hE2,e5,e6,k7,k6,k5,hI⟩⟩
  intro D gc fj ft fL fX fM fP fY df cC cz ef dD dV fh w_
  rintro ⟨aA,az,aB,ax,aD,aC,aw,aJ,⟨S2,c6,hE2,e5,e6,k7,k6,k5,hI⟩⟩
  have Fw:=aw fj
  have zK:=aC ft
  obtain rfl:=aD fL
  obtain rfl:=ax fX
  obtain rfl:=aB fM
  obtain rfl:=az fP
  obtain rfl:=aA fY
  clear aA az aB ax aD aC aw aJ
  rw [gc] at hI
  obtain ⟨_,hc6⟩:=e6 fj
  refine lq (by omega) ?_
  refine ⟨⟨m,S2,c6,by omega,rfl,hE.trans hE2,?_,hI⟩,by simp [intOf]⟩
  rw [Gz hm,<- ha1,<- ho1]
  exact hc6
end
def m8 (f:Nat):Prop:=∀ (s:Bs) (i d l:Nat) (t:T) (n:Nat) (S:ay),jd f s i d l=some (t,n)->s.length<=100000->i<=s.length->d<=100->l<=3->
 Tri Tryz.prog GZ [.string (st s),.int .i64 (i:Int),.int .i64 (d:Int),.int .i64 (l:Int)] [] S (Kf t n)
def De (f:Nat):Prop:=∀ (s:Bs) (i d:Nat) (t:T) (n:Nat) (S:ay),p9 f s i d=some (t,n)->s.length<=100000->i<=s.length->d<=100->
 Tri Tryz.prog DK [.string (st s),.int .i64 (i:Int),.int .i64 (d:Int)] [] S (Kf t n)
def rq (f:Nat):Prop:=∀ (s:Bs) (i d e o:Nat) (ts:List T) (n:Nat) (S:ay),ie f s i d e o []=some (ts,n)->s.length<=100000->i<=s.length->d<=100->
 Tri Tryz.prog ET [.string (st s),.int .i64 (i:Int),.int .i64 (d:Int),.int .u8 (e:Int),.int .u8 (o:Int)] [] S (Ld ts n)
theorem BC:∀ (f:Nat) (s:Bs) (i d e o:Nat) (acc ts:List T) (n:Nat),ie f s i d e o acc=some (ts,n)->ts.length+i<=acc.length+n
 | 0,s,i,d,e,o,acc,ts,n,h=>by simp [ie] at h
 | f+1,s,i,d,e,o,acc,ts,n,h=>by
  rw [ie] at h
  split at h
  ·cases h
  ·rename_i t' n' hr
   have a:=(gS f).1 _ _ _ _ _ _ hr
   split at h
   ·simp only [Option.some.injEq,Prod.mk.injEq] at h
    obtain ⟨rfl,rfl⟩:=h
    rw [List.length_append]
    simp only [List.length_cons,List.length_nil]
    omega
   ·split at h
    ·have b:=BC f _ _ _ _ _ _ _ _ h
     rw [List.length_append] at b
     simp only [List.length_cons,List.length_nil] at b
     omega
    ·cases h
section
attribute [local irreducible] Run CondV ai a4
theorem JR {f:Nat} (ih:∀ g,g<f->m8 g):rq f:=by
 intro s i d e o ts n S h hs hi hd w hI
 refine wG ?_
 unfold sd
 refine gN hI bC fun v0 w' hI=>?_
 refine ⟨fun a b w'=>∃ (f' i':Nat) (acc:List T) (S1:ay) (css:List (List Value)),f'<=f/\a=.int .i64 (i':Int)/\i<=i'/\i'<=s.length/\acc.length+i<=i'/\ie f' s i' d e o acc=some (ts,n)/\Ext w.heap.size [] S S1/\Rows 4 (RdT S1) css acc/\Inv w [] [a5 b ab 4 css] S1 w',
  fun a _ _=>s.length+1 - (intOf a).toNat,⟨f,i,[],S,[],Nat.le_refl _,rfl,Nat.le_refl _,hi,by simp,h,Ext.refl _ _ _,Rows.nil _ _,hI⟩,?_⟩
 intro t1 _ _ _ _ _ _ _ _ _ _ _ _ _ _ _ _ _ _ _ _ t12 _ _ _ _ _ _ _ _ _ _ _ _ _ _ _ _ _ _ w'
 rintro ⟨f',i',acc,S1,css,hf',rfl,hi1,hi2,hacc,hT,hE,hR,hI⟩
 have hcl:=hR.hc
 cases f' with
 | zero=>simp [ie] at hT
 | succ g=>
 rw [ie] at hT
 split at hT
 ·cases hT
 rename_i t n' hr
 have hle:=(gS g).1 _ _ _ _ _ _ hr
 refine Run.call0E gn gq hI (ih g (by omega) s i' d 3 t n' S1 hr hs hi2 hd (by omega)) fun v I' S2 w'=>?_
 rintro ⟨rfl,cs,rfl,hcs⟩ hE2 hI
 have hR2:=hR.monoR fun _ _ h=>RdT.mono hE2.1 h
 obtain ⟨kv,rfl,_,_,_,a,m,rfl,_⟩:=RdT.iff.1 hcs
 refine aT (v:=.agg _) rfl ?_
 refine aT (v:=.int .i64 (n':Int)) rfl ?_
 refine a9 hI bt fun b13 w' hI=>?_
 refine aM hI 1 rfl ag rfl rfl (by simp [Value.oneCell']) fun w' hI=>?_
 refine eU (by omega) ?_
 refine a7 (fun hb=>by cases hb) (fun _=>?_)
 refine aO hI 1 ag rfl rfl ?_
 refine eL (css:=css) hI 0 _ bC (by omega) (by omega) rfl hcs.length hcs.one (by omega) (by omega) fun v' w' hI=>?_
 have hI:Inv w [] [a5 v' ab 4 (css++[[.int .i64 t.kind,.int .i64 t.n,.string t.name,.slice a t.kids.length m]])] S2 w':=hI.pick [true,false]
 have hR3:=hR2.snoc hcs hcs.length
 refine ⟨fun b w'=>b=.bool (sgn s n' e || sgn s n' o)/\Inv w [] [a5 v' ab 4 (css++[[.int .i64 t.kind,.int .i64 t.n,.string t.name,.slice a t.kids.length m]])] S2 w',?_,?_⟩
 ·refine Run.callPure dv du hI (cX s n' e S2) fun w' hI=>?_
  cases he:sgn s n' e
  ·repeat (first|refine ae ?_|refine ah (by decide) ?_|refine ad ?_|refine al ?_|refine aj ?_)
   refine Run.callPure dv du hI (cX s n' o S2) fun w' hI=>?_
   repeat (first|refine ae ?_|refine ah (by decide) ?_|refine ad ?_|refine al ?_|refine aj ?_)
   exact ⟨by simp,hI⟩
  ·repeat (first|refine ae ?_|refine ah (by decide) ?_|refine ad ?_|refine al ?_|refine aj ?_)
   exact ⟨by simp,hI⟩
 intro t39 _ _ _ _ _ _ _ _ _ w'
 rintro ⟨rfl,hI⟩
 refine a7 (fun hb=>?_) (fun hb=>?_)
 ·rw [Bool.or_eq_true] at hb
  rw [if_pos hb] at hT
  simp only [Option.some.injEq,Prod.mk.injEq] at hT
  obtain ⟨rfl,rfl⟩:=hT
  obtain ⟨S3,hE3,hrd,hI⟩:=Inv.lendExt (A:=[]) hI
  have hrs:=RowRd.rows (hR3.monoR fun _ _ h=>RdT.mono hE3.1 h) hrd
  exact ⟨_,[],S3,rfl,hI,(hE.trans hE2).trans hE3,rfl,_,rfl,hrs⟩
 ·have hb':¬ (sgn s n' e=true ∨ sgn s n' o=true):=fun h=>by rw [<- Bool.or_eq_true,hb] at h; cases h
  rw [if_neg hb'] at hT
  split at hT
  ·rename_i h44
   refine Run.callPure dv du hI (cX s n' 44 S2) fun w' hI=>?_
   refine cN ?_
   rw [h44]
   refine a7 (fun hb=>by cases hb) (fun _=>?_)
   have:=ic h44
   refine eW (a:=n') (b:=1) rfl rfl (by omega) ?_
   refine ⟨⟨g,n'+1,acc++[t],S2,css++[[.int .i64 t.kind,.int .i64 t.n,.string t.name,.slice a t.kids.length m]],by omega,rfl,by omega,by omega,?_,hT,hE.trans hE2,hR3,hI⟩,?_⟩
   ·rw [List.length_append]; simp only [List.length_cons,List.length_nil]; omega
   ·simp only [intOf,Int.toNat_natCast]; omega
  ·cases hT
theorem D3 {g:Nat} (hT:rq g) (hR:m8 g) {s:Bs} {i d:Nat} {ts:List T} {n:Nat} {t:T} {e:Nat} (h1:ie g s i d 93 124 []=some (ts,n))
  (h2:(sgn s n 93=true/\t=iQ ts nilT/\e=n+1) ∨ (sgn s n 93=false/\∃ u m,jd g s (n+1) d 3=some (u,m)/\sgn s m 93=true/\t=iQ ts u/\e=m+1))
  (hs:s.length<=100000) (hi:i<=s.length) (hd:d<=100) (S:ay):Tri Tryz.prog EW [.string (st s),.int .i64 (i:Int),.int .i64 (d:Int)] [] S (Kf t e):=by
 intro w hI
 have hle:=(gS g).2.2.2 _ _ _ _ _ _ _ _ h1
 have hln:=BC _ _ _ _ _ _ _ _ _ h1
 simp only [List.length_nil] at hln
 refine wH ?_
 unfold sL
 refine a9 hI bt fun b6 w' hI=>?_
 refine Run.call0E re sG hI (hT s i d 93 124 ts n S h1 hs hi hd) fun v I' S1 w'=>?_
 rintro ⟨rfl,u,rfl,hu⟩ hE1 hI
 have hI:Inv w [] [.blk b6 (.cells #[.int .i64 0,.int .i64 0,.string ⟨#[]⟩,.slice none 0 0] ab)] S1 w':=hI
 refine aT (v:=u) rfl ?_
 refine aT (v:=.int .i64 (n:Int)) rfl ?_
 refine eU (by omega) ?_
 refine a7 (fun hb=>by cases hb) (fun _=>?_)
 refine Run.callPure dv du hI (cX s n 93 S1) fun w' hI=>?_
 rcases h2 with ⟨h3,rfl,rfl⟩|⟨h3,x,m,h4,h5,rfl,rfl⟩
 ·rw [h3]
  refine a7 (fun _=>?_) (fun hb=>by cases hb)
  refine Run.call0E dZ d4 hI (eO ⟨#[91,93]⟩ (by decide +kernel) (lL S1) (by simp)) fun v I' S2 w'=>?_
  rintro ⟨rfl,cs,rfl,hcs⟩ hE2 hI
  refine Run.call0E sF su hI (pI (hu.monoT hE2.1) hcs (by omega)) fun v I' S3 w'=>?_
  rintro ⟨rfl,ds,rfl,hds⟩ hE3 hI
  refine eW (a:=n) (b:=1) rfl rfl (by omega) ?_
  obtain ⟨kv,rfl,_,_,_,a,k,rfl,_⟩:=RdT.iff.1 hds
  refine aM hI 0 rfl ag rfl rfl (by simp [Value.oneCell']) fun w' hI=>?_
  refine bA hI 0 ag rfl rfl ?_
  exact ⟨_,[],S3,rfl,hI.nil,(hE1.trans hE2).trans hE3,rfl,_,rfl,hds⟩
 ·rw [h3]
  refine a7 (fun hb=>by cases hb) (fun _=>?_)
  refine eW (a:=n) (b:=1) rfl rfl (by omega) ?_
  have hle2:=(gS g).1 _ _ _ _ _ _ h4
  refine Run.call0E gn gq hI (hR s (n+1) d 3 x m S1 h4 hs (by omega) hd (by omega)) fun v I' S2 w'=>?_
  rintro ⟨rfl,cs,rfl,hcs⟩ hE2 hI
  obtain ⟨kv,rfl,_,_,_,a,k,rfl,_⟩:=RdT.iff.1 hcs
  refine aT (v:=.agg _) rfl ?_
  refine aT (v:=.int .i64 (m:Int)) rfl ?_
  refine a9 hI bt fun b10 w' hI=>?_
  refine aM hI 1 rfl ag rfl rfl (by simp [Value.oneCell']) fun w' hI=>?_
  refine eU (by omega) ?_
  refine a7 (fun hb=>by cases hb) (fun _=>?_)
  refine Run.callPure dv du hI (cX s m 93 S2) fun w' hI=>?_
  refine cN ?_
  rw [h5]
  refine a7 (fun hb=>by cases hb) (fun _=>?_)
  refine aO hI 1 ag rfl rfl ?_
  refine Run.call0E sF su hI (pI (hu.monoT hE2.1) hcs (by omega)) fun v I' S3 w'=>?_
  rintro ⟨rfl,ds,rfl,hds⟩ hE3 hI
  refine eW (a:=m) (b:=1) rfl rfl (by omega) ?_
  obtain ⟨kv,rfl,_,_,_,a,k,rfl,_⟩:=RdT.iff.1 hds
  refine aM hI 0 rfl ag rfl rfl (by simp [Value.oneCell']) fun w' hI=>?_
  refine bA hI 0 ag rfl rfl ?_
  exact ⟨_,[],S3,rfl,hI.nil,(hE1.trans hE2).trans hE3,rfl,_,rfl,hds⟩
theorem Ch {n:Bs} (h:n.length<=6):(st n).size<=maxLen:=by rw [kI]; simp only [maxLen]; omega
theorem JM {f:Nat} (ihR:∀ g,g<f->m8 g) (ihT:∀ g,g<f->rq g):De f:=by
 intro s i d t n S h hs hi hd w hI
 cases f with
 | zero=>simp [p9] at h
 | succ g=>
 have hR:=ihR g (by omega)
 have hT:=ihT g (by omega)
 have hle:=(gS (g+1)).2.2.1 _ _ _ _ _ h
 rw [p9] at h
 split at h
 ·cases h
 rename_i h0
 have hd0:1<=d:=by omega
 have hlt:i<s.length:=by omega
 refine wj ?_
 unfold rW
 refine a9 hI bt fun b6 w' hI=>?_
 have hI:Inv w [] [.blk b6 (.cells #[.int .i64 0,.int .i64 0,.string ⟨#[]⟩,.slice none 0 0] ab)] S w':=hI
 refine ⟨fun b w'=>b=.bool false/\Inv w [] [.blk b6 (.cells #[.int .i64 0,.int .i64 0,.string ⟨#[]⟩,.slice none 0 0] ab)] S w',?_,?_⟩
 ·refine eU (by omega) ?_
  repeat (first|refine ae ?_|refine ah (by decide) ?_|refine ad ?_|refine al ?_|refine aj ?_)
  refine fE bk ?_
  refine uH (by omega) ?_
  repeat (first|refine ae ?_|refine ah (by decide) ?_|refine ad ?_|refine al ?_|refine aj ?_)
  exact ⟨rfl,hI⟩
 intro t23 _ _ _ _ _ _ _ w'
 rintro ⟨rfl,hI⟩
 refine a7 (fun hb=>by cases hb) (fun _=>?_)
 refine eH bk hlt ?_
 split at h
 ·rename_i h40
  rw [jR hlt,decide_eq_true_eq] at h40
  refine fZ (by omega) ?_
  refine a7 (fun _=>?_) (fun hb=>by cases hb)
  split at h
  ·cases h
  rename_i u m hr
  split at h
  ·rename_i h41
   simp only [Option.some.injEq,Prod.mk.injEq] at h
   obtain ⟨rfl,rfl⟩:=h
   have hle2:=(gS g).1 _ _ _ _ _ _ hr
   refine eW (a:=i) (b:=1) rfl rfl (by omega) ?_
   refine Run.call0E gn gq hI (hR s (i+1) d 3 u m S hr hs (by omega) hd (by omega)) fun v I' S2 w'=>?_
   rintro ⟨rfl,cs,rfl,hcs⟩ hE2 hI
   obtain ⟨kv,rfl,_,_,_,a,k,rfl,_⟩:=RdT.iff.1 hcs
   refine aT (v:=.agg _) rfl ?_
   refine aT (v:=.int .i64 (m:Int)) rfl ?_
   refine a9 hI bt fun b8 w' hI=>?_
   refine aM hI 1 rfl ag rfl rfl (by simp [Value.oneCell']) fun w' hI=>?_
   refine eU (by omega) ?_
   refine a7 (fun hb=>by cases hb) (fun _=>?_)
   refine Run.callPure dv du hI (cX s m 41 S2) fun w' hI=>?_
   refine cN ?_
   rw [h41]
   refine a7 (fun hb=>by cases hb) (fun _=>?_)
   refine aO hI 1 ag rfl rfl ?_
   refine eW (a:=m) (b:=1) rfl rfl (by omega) ?_
   refine aM hI 0 rfl ag rfl rfl (by simp [Value.oneCell']) fun w' hI=>?_
   refine bA hI 0 ag rfl rfl ?_
   exact ⟨_,[],S2,rfl,hI.nil,hE2,rfl,_,rfl,hcs⟩
  ·cases h
 rename_i h40
 rw [jR hlt,decide_eq_true_eq] at h40
 refine eK (by omega) ?_
 refine a7 (fun hb=>by cases hb) (fun _=>?_)
 refine ⟨fun b w'=>b=.bool (sgn s i 91 && !sgn s (i+1) 93)/\Inv w [] [.blk b6 (.cells #[.int .i64 0,.int .i64 0,.string ⟨#[]⟩,.slice none 0 0] ab)] S w',?_,?_⟩
 ·refine eH bk hlt ?_
  by_cases h91:s[i].toNat=91
  ·refine fZ (by omega) ?_
   repeat (first|refine ae ?_|refine ah (by decide) ?_|refine ad ?_|refine al ?_|refine aj ?_)
   refine eW (a:=i) (b:=1) rfl rfl (by omega) ?_
   refine Run.callPure dv du hI (cX s (i+1) 93 S) fun w' hI=>?_
   refine cN ?_
   repeat (first|refine ae ?_|refine ah (by decide) ?_|refine ad ?_|refine al ?_|refine aj ?_)
   exact ⟨by rw [jR hlt,decide_eq_true h91,Bool.true_and],hI⟩
  ·refine eK (by omega) ?_
   repeat (first|refine ae ?_|refine ah (by decide) ?_|refine ad ?_|refine al ?_|refine aj ?_)
   exact ⟨by rw [jR hlt,decide_eq_false h91,Bool.false_and],hI⟩
 intro t65 _ _ _ _ _ _ _ _ _ _ w'
 rintro ⟨rfl,hI⟩
 split at h
 ·rename_i h91
  rw [h91.1,h91.2]
  refine a7 (fun _=>?_) (fun hb=>by cases hb)
  split at h
  ·cases h
  rename_i ts m hts
  have h2:(sgn s m 93=true/\t=iQ ts nilT/\n=m+1) ∨ (sgn s m 93=false/\∃ u k,jd g s (m+1) (d - 1) 3=some (u,k)/\sgn s k 93=true/\t=iQ ts u/\n=k+1):=by
   split at h
   ·rename_i h3
    simp only [Option.some.injEq,Prod.mk.injEq] at h
    exact .inl ⟨h3,h.1.symm,h.2.symm⟩
   ·rename_i h3
    split at h
    ·cases h
    rename_i u k hr
    split at h
    ·rename_i h4
     simp only [Option.some.injEq,Prod.mk.injEq] at h
     exact .inr ⟨Bool.eq_false_iff.2 h3,u,k,hr,h4,h.1.symm,h.2.symm⟩
    ·cases h
  refine eW (a:=i) (b:=1) rfl rfl (by omega) ?_
  refine zi (a:=d) (b:=1) rfl rfl hd0 (by omega) ?_
  refine Run.call0E CH C6 hI (D3 hT hR hts h2 hs (by omega) (by omega) S) fun v I' S2 w'=>?_
  rintro ⟨rfl,cs,rfl,hcs⟩ hE2 hI
  obtain ⟨kv,rfl,_,_,_,a,k,rfl,_⟩:=RdT.iff.1 hcs
  refine aT (v:=.agg _) rfl ?_
  refine aT (v:=.int .i64 (n:Int)) rfl ?_
  refine aM hI 0 rfl ag rfl rfl (by simp [Value.oneCell']) fun w' hI=>?_
  refine bA hI 0 ag rfl rfl ?_
  exact ⟨_,[],S2,rfl,hI.nil,hE2,rfl,_,rfl,hcs⟩
 rename_i h91
 have e91:(sgn s i 91 && !sgn s (i+1) 93)=false:=by
  cases h5:sgn s i 91
  ·rfl
  ·cases h6:sgn s (i+1) 93
   ·exact absurd ⟨h5,h6⟩ h91
   ·rfl
 rw [e91]
 refine a7 (fun hb=>by cases hb) (fun _=>?_)
 refine ⟨fun b w'=>b=.bool (upp s i)/\Inv w [] [.blk b6 (.cells #[.int .i64 0,.int .i64 0,.string ⟨#[]⟩,.slice none 0 0] ab)] S w',?_,?_⟩
 ·refine eH bk hlt ?_
  by_cases h65:65<=s[i].toNat
  ·refine lJ (by omega) ?_
   repeat (first|refine ae ?_|refine ah (by decide) ?_|refine ad ?_|refine al ?_|refine aj ?_)
   refine eH bk hlt ?_
   refine gO ?_
   repeat (first|refine ae ?_|refine ah (by decide) ?_|refine ad ?_|refine al ?_|refine aj ?_)
   refine ⟨?_,hI⟩
   rw [upp,lK hlt,decide_eq_true h65,Bool.true_and]
   congr 1
   rw [decide_eq_decide]
   omega
  ·refine uH (by omega) ?_
   repeat (first|refine ae ?_|refine ah (by decide) ?_|refine ad ?_|refine al ?_|refine aj ?_)
   exact ⟨by rw [upp,lK hlt,decide_eq_false h65,Bool.false_and],hI⟩
 intro t83 _ _ _ _ _ _ _ _ _ w'
 rintro ⟨rfl,hI⟩
 split at h
 ·rename_i hup
  simp only [Option.some.injEq,Prod.mk.injEq] at h
  obtain ⟨rfl,rfl⟩:=h
  rw [hup]
  rw [upp,lK hlt,Bool.and_eq_true,decide_eq_true_eq,decide_eq_true_eq] at hup
  refine a7 (fun _=>?_) (fun hb=>by cases hb)
  refine eH bk hlt ?_
  refine Kv (c:=(s[i].toNat:Int) - 65) (IntWalk.u8_in _ (by omega)) ?_
  refine mR gh gJ (IntWalk.i64_in _ (by omega)) ?_
  refine Run.callPure yu yD hI (pN _ S) fun w' hI=>?_
  refine eW (a:=i) (b:=1) rfl rfl (by omega) ?_
  refine aM hI 0 rfl ag rfl rfl (by simp [Value.oneCell']) fun w' hI=>?_
  refine bA hI 0 ag rfl rfl ?_
  have eg:((s.getD i 0).toNat:Int) - 65=(s[i].toNat:Int) - 65:=by rw [List.getD_eq_getElem?_getD,List.getElem?_eq_getElem hlt]; rfl
  rw [eg]
  exact ⟨_,[],S,rfl,hI.nil,Ext.refl _ _ _,rfl,_,rfl,RdT.nil (by simp [inI]) (by unfold inI; omega) (by decide +kernel) (Nat.zero_le _)⟩
 rename_i hup
 rw [Bool.eq_false_iff.2 hup]
 refine a7 (fun hb=>by cases hb) (fun _=>?_)
 refine ⟨fun b w'=>b=.bool (dig s i || (sgn s i 45 && dig s (i+1)))/\Inv w [] [.blk b6 (.cells #[.int .i64 0,.int .i64 0,.string ⟨#[]⟩,.slice none 0 0] ab)] S w',?_,?_⟩
 ·refine Run.callPure jx jy hI (gR s i S) fun w' hI=>?_
  cases hdi:dig s i
  ·repeat (first|refine ae ?_|refine ah (by decide) ?_|refine ad ?_|refine al ?_|refine aj ?_)
   refine eH bk hlt ?_
   by_cases h45:s[i].toNat=45
   ·refine fZ (by omega) ?_
    repeat (first|refine ae ?_|refine ah (by decide) ?_|refine ad ?_|refine al ?_|refine aj ?_)
    refine eW (a:=i) (b:=1) rfl rfl (by omega) ?_
    refine Run.callPure jx jy hI (gR s (i+1) S) fun w' hI=>?_
    repeat (first|refine ae ?_|refine ah (by decide) ?_|refine ad ?_|refine al ?_|refine aj ?_)
    exact ⟨by rw [jR hlt,decide_eq_true h45,Bool.true_and,Bool.false_or],hI⟩
   ·refine eK (by omega) ?_
    repeat (first|refine ae ?_|refine ah (by decide) ?_|refine ad ?_|refine al ?_|refine aj ?_)
    exact ⟨by rw [jR hlt,decide_eq_false h45,Bool.false_and,Bool.false_or],hI⟩
  ·repeat (first|refine ae ?_|refine ah (by decide) ?_|refine ad ?_|refine al ?_|refine aj ?_)
   exact ⟨by rw [Bool.true_or],hI⟩
 intro t106 _ _ _ _ _ _ _ _ _ _ _ _ _ _ w'
 rintro ⟨rfl,hI⟩
 split at h
 ·rename_i hdg
  have:(dig s i || (sgn s i 45 && dig s (i+1)))=true:=by rw [Bool.or_eq_true,Bool.and_eq_true]; exact hdg
  rw [this]
  refine a7 (fun _=>?_) (fun hb=>by cases hb)
  obtain ⟨k,hk,rfl,_,_,hnum⟩:=zB h (by omega) S
  refine Run.callPure AG AL hI hnum fun w' hI=>?_
  refine aT (v:=Bh 2 k) rfl ?_
  refine aT (v:=.int .i64 (n:Int)) rfl ?_
  refine a9 hI bt fun b10 w' hI=>?_
  refine aM hI 1 rfl ag rfl rfl (by simp [Value.oneCell']) fun w' hI=>?_
  refine eU (by omega) ?_
  refine a7 (fun hb=>by cases hb) (fun _=>?_)
  refine aO hI 1 ag rfl rfl ?_
  refine aM hI 0 rfl ag rfl rfl (by simp [Value.oneCell']) fun w' hI=>?_
  refine bA hI 0 ag rfl rfl ?_
  exact ⟨_,[],S,rfl,hI.nil,Ext.refl _ _ _,rfl,_,rfl,RdT.nil (by simp [inI]) hk (by decide +kernel) (Nat.zero_le _)⟩
 rename_i hdg
 have:(dig s i || (sgn s i 45 && dig s (i+1)))=false:=by
  rw [Bool.eq_false_iff,ne_eq,Bool.or_eq_true,Bool.and_eq_true]; exact hdg
 rw [this]
 refine a7 (fun hb=>by cases hb) (fun _=>?_)
 refine Run.callPure vE vz hI (r4 hlt hs S) fun w' hI=>?_
 cases hnm:rL s i with
 | none=>rw [hnm] at h; cases h
 | some q=>
 obtain ⟨name,m⟩:=q
 rw [hnm] at h
 simp only [] at h
 simp only [H3]
 have hnl:=rA hlt hnm
 refine aT (v:=.string (st name)) rfl ?_
 refine aT (v:=.int .i64 (m:Int)) rfl ?_
 refine eU (by omega) ?_
 refine a7 (fun hb=>by cases hb) (fun _=>?_)
 refine Run.callPure dv du hI (cX s m 40 S) fun w' hI=>?_
 refine cN ?_
 split at h
 ·rename_i h40'
  simp only [Option.some.injEq,Prod.mk.injEq] at h
  obtain ⟨rfl,rfl⟩:=h
  rw [h40']
  refine a7 (fun _=>?_) (fun hb=>by cases hb)
  refine Run.call0E dZ d4 hI (eO (st name) (Ch hnl.2.2.1) (lL S) (by simp)) fun v I' S2 w'=>?_
  rintro ⟨rfl,cs,rfl,hcs⟩ hE2 hI
  obtain ⟨kv,rfl,_,_,_,a,k,rfl,_⟩:=RdT.iff.1 hcs
  refine aM hI 0 rfl ag rfl rfl (by simp [Value.oneCell']) fun w' hI=>?_
  refine bA hI 0 ag rfl rfl ?_
  exact ⟨_,[],S2,rfl,hI.nil,hE2,rfl,_,rfl,hcs⟩
 ·rename_i h40'
  rw [Bool.not_eq_false] at h40'
  rw [h40']
  refine a7 (fun hb=>by cases hb) (fun _=>?_)
  split at h
  ·cases h
  rename_i ts k hts
  simp only [Option.some.injEq,Prod.mk.injEq] at h
  obtain ⟨rfl,rfl⟩:=h
  have hm:=ic h40'
  have hle2:=(gS g).2.2.2 _ _ _ _ _ _ _ _ hts
  refine eW (a:=m) (b:=1) rfl rfl (by omega) ?_
  refine zi (a:=d) (b:=1) rfl rfl hd0 (by omega) ?_
  refine Run.call0E re sG hI (hT s (m+1) (d - 1) 41 41 ts k S hts hs (by omega) (by omega)) fun v I' S2 w'=>?_
  rintro ⟨rfl,u,rfl,hu⟩ hE2 hI
  refine aT (v:=u) rfl ?_
  refine aT (v:=.int .i64 (k:Int)) rfl ?_
  refine eU (by omega) ?_
  refine a7 (fun hb=>by cases hb) (fun _=>?_)
  obtain ⟨a,c,rfl,_⟩:=id hu
  refine pK ⟨_,_,_,rfl⟩ ?_
  refine eW (a:=k) (b:=1) rfl rfl (by omega) ?_
  refine aM hI 0 rfl ag rfl rfl (by simp [Value.oneCell']) fun w' hI=>?_
  refine bA hI 0 ag rfl rfl ?_
  exact ⟨_,[],S2,rfl,hI.nil,hE2,rfl,_,rfl,RdT.iff.2 ⟨_,rfl,by simp [inI,T.kind,DY],by simp [inI,T.n,DY],Ch hnl.2.2.1,hu⟩⟩
theorem KZ {f:Nat} (ihR:∀ g,g<f->m8 g) (ihP:∀ g,g<f->De g):m8 f:=by
 intro s i d l t n S h hs hi hd hl w hI
 cases f with
 | zero=>simp [jd] at h
 | succ f=>
 refine xJ ?_
 unfold vG
 refine a9 hI bt fun b8 w' hI=>?_
 have hI:Inv w [] [.blk b8 (.cells #[.int .i64 0,.int .i64 0,.string ⟨#[]⟩,.slice none 0 0] ab)] S w':=hI
 cases l with
 | zero=>
  rw [jd] at h
  refine fZ rfl ?_
  refine a7 (fun _=>?_) (fun hb=>by cases hb)
  refine Run.call0E Df BR hI (ihP f (by omega) s i d t n S h hs hi hd) fun v I' S2 w'=>?_
  rintro ⟨rfl,cs,rfl,hcs⟩ hE2 hI
  obtain ⟨kv,rfl,_,_,_,a,k,rfl,_⟩:=RdT.iff.1 hcs
  refine aT (v:=.agg _) rfl ?_
  refine aT (v:=.int .i64 (n:Int)) rfl ?_
  refine aM hI 0 rfl ag rfl rfl (by simp [Value.oneCell']) fun w' hI=>?_
  refine bA hI 0 ag rfl rfl ?_
  exact ⟨_,[],S2,rfl,hI.nil,hE2,rfl,_,rfl,hcs⟩
 | succ l=>
  rw [jd] at h
  split at h
  ·cases h
  rename_i t0 n0 hr
  have hle:=(gS f).1 _ _ _ _ _ _ hr
  refine eK (by omega) ?_
  refine a7 (fun hb=>by cases hb) (fun _=>?_)
  refine zi (a:=l+1) (b:=1) rfl rfl (by omega) (by omega) ?_
  rw [Nat.add_sub_cancel]
  refine Run.call0E gn gq hI (ihR f (by omega) s i d l t0 n0 S hr hs hi hd (by omega)) fun v I' S1 w'=>?_
  rintro ⟨rfl,cs,rfl,hcs⟩ hE1 hI
  obtain ⟨kv,rfl,_,_,_,a,k,rfl,_⟩:=RdT.iff.1 hcs
  refine aT (v:=.agg _) rfl ?_
  refine aT (v:=.int .i64 (n0:Int)) rfl ?_
  refine a9 hI bt fun b10 w' hI=>?_
  refine aM hI 1 rfl ag rfl rfl (by simp [Value.oneCell']) fun w' hI=>?_
  refine ⟨fun a w'=>∃ (f' n':Nat) (t':T) (ds:List Value) (S1:ay),f'<=f/\a=.int .i64 (n':Int)/\n'<=s.length/\Fj f' s n' d l t'=some (t,n)/\Ext w.heap.size [] S S1/\RdT S1 ds t'/\Inv w [] [.blk b8 (.cells #[.int .i64 0,.int .i64 0,.string ⟨#[]⟩,.slice none 0 0] ab),.blk b10 (.cells ds.toArray ab)] S1 w',
   fun a _=>s.length+1 - (intOf a).toNat,⟨f,n0,t0,_,S1,Nat.le_refl _,rfl,hle.2,h,hE1,hcs,hI⟩,?_⟩
  clear h hE1 hcs hI hr hle
  intro _ _ _ _ t11 _ _ _ _ _ _ _ _ _ _ _ _ _ _ _ _ _ _ _ _ _ _ _ _ _ _ _ _ _ _ _ _ _ _ _ _ _ _ _ _ _ _ w'
  rintro ⟨f',n',t',ds,S1,hf',rfl,hn',ho,hE,hds,hI⟩
  obtain ⟨kd,rfl,_,_,hts',da,dm,rfl,_⟩:=RdT.iff.1 hds
  cases f' with
  | zero=>simp [Fj] at ho
  | succ g=>
  rw [Fj] at ho
  refine lJ (by omega) ?_
  refine a7 (fun _=>?_) (fun hb=>by cases hb)
  refine Run.callPure Il IW hI (He hs hn' S1) fun w' hI=>?_
  cases hop:opF s n' with
  | none=>
   rw [hop] at ho
   simp only [Option.some.injEq,Prod.mk.injEq] at ho
   obtain ⟨rfl,rfl⟩:=ho
   simp only [opV]
   refine aT (v:=.string ⟨#[]⟩) rfl ?_
   refine aT (v:=.int .i64 (n':Int)) rfl ?_
   refine ⟨fun b w'=>b=.bool true/\Inv w [] [.blk b8 (.cells #[.int .i64 0,.int .i64 0,.string ⟨#[]⟩,.slice none 0 0] ab),.blk b10 (.cells #[.int .i64 t'.kind,.int .i64 t'.n,.string t'.name,.slice da t'.kids.length dm] ab)] S1 w',?_,?_⟩
   ·refine cK ?_
    rw [decide_eq_true rfl]
    repeat (first|refine ae ?_|refine ah (by decide) ?_|refine ad ?_|refine al ?_|refine aj ?_)
    exact ⟨rfl,hI⟩
   intro t48 _ _ _ _ _ _ _ w'
   rintro ⟨rfl,hI⟩
   refine a7 (fun _=>?_) (fun hb=>by cases hb)
   refine aO hI 1 ag rfl rfl ?_
   refine aM hI 0 rfl ag rfl rfl (by simp [Value.oneCell']) fun w' hI=>?_
   refine bA hI 0 ag rfl rfl ?_
   exact ⟨_,[],S1,rfl,hI.nil,hE,rfl,_,rfl,hds⟩
  | some q=>
   obtain ⟨name,after⟩:=q
   rw [hop] at ho
   simp only [] at ho
   simp only [opV]
   have hol:=KF hop
   refine aT (v:=.string (st name)) rfl ?_
   refine aT (v:=.int .i64 (after:Int)) rfl ?_
   refine ⟨fun b w'=>b=.bool (!decide (cV (st name)=((l+1:Nat):Int)))/\Inv w [] [.blk b8 (.cells #[.int .i64 0,.int .i64 0,.string ⟨#[]⟩,.slice none 0 0] ab),.blk b10 (.cells #[.int .i64 t'.kind,.int .i64 t'.n,.string t'.name,.slice da t'.kids.length dm] ab)] S1 w',?_,?_⟩
   ·refine xN (b:=[]) ?_
    rw [decide_eq_false hol.2.2.2]
    repeat (first|refine ae ?_|refine ah (by decide) ?_|refine ad ?_|refine al ?_|refine aj ?_)
    refine Run.callPure fG fK hI (ek _ S1) fun w' hI=>?_
    refine iD ?_
    repeat (first|refine ae ?_|refine ah (by decide) ?_|refine ad ?_|refine al ?_|refine aj ?_)
    exact ⟨rfl,hI⟩
   intro t48 _ _ _ _ _ _ _ w'
   rintro ⟨rfl,hI⟩
   split at ho
   ·rename_i hlv
    rw [decide_eq_true hlv]
    refine a7 (fun hb=>by cases hb) (fun _=>?_)
    split at ho
    ·cases ho
    rename_i r e hr
    have hle:=(gS g).1 _ _ _ _ _ _ hr
    refine zi (a:=l+1) (b:=1) rfl rfl (by omega) (by omega) ?_
    rw [Nat.add_sub_cancel]
    refine Run.call0E gn gq hI (ihR g (by omega) s after d l r e S1 hr hs (by omega) hd (by omega)) fun v I' S2 w'=>?_
    rintro ⟨rfl,es,rfl,hes⟩ hE2 hI
    obtain ⟨ke,rfl,_,_,_,ea,em,rfl,_⟩:=RdT.iff.1 hes
    refine aT (v:=.agg _) rfl ?_
    refine aT (v:=.int .i64 (e:Int)) rfl ?_
    refine a9 hI bt fun b14 w' hI=>?_
    refine aM hI 2 rfl ag rfl rfl (by simp [Value.oneCell']) fun w' hI=>?_
    refine eU (by omega) ?_
    refine a7 (fun hb=>by cases hb) (fun _=>?_)
    refine aO hI 1 ag rfl rfl ?_
    refine aO hI 2 ag rfl rfl ?_
    refine qL (v:=fun b=>.slice (some ⟨b,0,none⟩) 2 2) (o:=.cells #[.int .i64 t'.kind,.int .i64 t'.n,.string t'.name,.slice da t'.kids.length dm,.int .i64 r.kind,.int .i64 r.n,.string r.name,.slice ea r.kids.length em] ab) hI (by kernel_rfl) fun b20 w' hI=>?_
    obtain ⟨S3,hI,hE3,hS3⟩:=Inv.pub1 (A:=[_,_,_]) hI
    have hks:=FS hS3 (RdT.mono (hE2.1.trans hE3.1) hds) (RdT.mono hE3.1 hes)
    refine Run.call0E dZ d4 hI (eO (st name) (Ch hol.2.2.1) hks (by simp)) fun v I' S4 w'=>?_
    rintro ⟨rfl,gs,rfl,hgs⟩ hE4 hI
    obtain ⟨kg,rfl,_,_,_,ga,gm,rfl,_⟩:=RdT.iff.1 hgs
    have hE':=((hE.trans hE2).trans hE3).trans hE4
    refine aM hI 1 rfl ag rfl rfl (by simp [Value.oneCell']) fun w' hI=>?_
    split at ho
    ·rename_i hl2
     subst hl2
     simp only [Option.some.injEq,Prod.mk.injEq] at ho
     obtain ⟨rfl,rfl⟩:=ho
     refine fZ rfl ?_
     refine a7 (fun _=>?_) (fun hb=>by cases hb)
     refine aO hI 1 ag rfl rfl ?_
     refine aM hI 0 rfl ag rfl rfl (by simp [Value.oneCell']) fun w' hI=>?_
     refine bA hI 0 ag rfl rfl ?_
     exact ⟨_,[],S4,rfl,hI.nil,hE',rfl,_,rfl,hgs⟩
    ·refine eK (by omega) ?_
     refine a7 (fun hb=>by cases hb) (fun _=>?_)
     refine ⟨⟨g,e,_,_,S4,by omega,rfl,hle.2,ho,hE',hgs,hI.pick [true,true,false]⟩,?_⟩
     simp only [intOf,Int.toNat_natCast]
     omega
   ·rename_i hlv
    rw [decide_eq_false hlv]
    simp only [Option.some.injEq,Prod.mk.injEq] at ho
    obtain ⟨rfl,rfl⟩:=ho
    refine a7 (fun _=>?_) (fun hb=>by cases hb)
    refine aO hI 1 ag rfl rfl ?_
    refine aM hI 0 rfl ag rfl rfl (by simp [Value.oneCell']) fun w' hI=>?_
    refine bA hI 0 ag rfl rfl ?_
    exact ⟨_,[],S1,rfl,hI.nil,hE,rfl,_,rfl,hds⟩
theorem JT:∀ F f,f<F->m8 f/\De f/\rq f
 | 0,f,h=>by omega
 | F+1,f,h=>by
  have ih:=JT F
  have hR:m8 f:=KZ (fun g hg=>(ih g (by omega)).1) (fun g hg=>(ih g (by omega)).2.1)
  have hT:rq f:=JR fun g hg=>(ih g (by omega)).1
  exact ⟨hR,JM (fun g hg=>(ih g (by omega)).1) (fun g hg=>(ih g (by omega)).2.2),hT⟩
theorem BI (f:Nat):m8 f:=(JT (f+1) f (by omega)).1
end

end Go.Proofs.YtnmnddpdikghhaaGreat

/- The source of random numbers: spec.l18Open, pick, of, num. (printed by gen_rd.py) -/
namespace Go.Proofs.YtnmnddpdikghhaaGreat
open Go Go.RowKit

def kR (cs:List Value) (n:Nat):Prop:=cs=[.int .u8 (n:Int)]/\n<256
abbrev rdI (br:Nat) (sl:Value) (p:Nat):Item:=.blk br (.cells #[sl,.int .i64 (p:Int)] DF)
abbrev rdP (br:Nat):Value:=.pointer (some ⟨br,0,none⟩)
section
variable {P:Program} {w:World} {K:Value->World->Prop}
theorem Fy {T:TypeId} {cx cy:Bool} {x y:Int} {a b:Nat} (hx:x=a) (hy:y=b) (hb:0<b) (hk:K (.int .i64 ((a % b:Nat):Int)) w):Run P (av .rem T cx cy (.int .i64 x) (.int .i64 y)) w K:=by
 subst hx hy
 exact Ha hb hk
theorem HJ {T:TypeId} {cx cy:Bool} {x y:Int} {a b:Nat} (hx:x=a) (hy:y=b) (hb:0<b) (ha:a<=9223372036854775807) (hk:K (.int .i64 ((a / b:Nat):Int)) w):Run P (av .quo T cx cy (.int .i64 x) (.int .i64 y)) w K:=by
 subst hx hy
 exact Lq hb ha hk
theorem LE {T:TypeId} {cx cy:Bool} {x y:Int} {a b:Nat} (hx:x=a) (hy:y=b) (ha:a<4611686018427387904) (hb:b<4611686018427387904) (hk:K (.int .i64 ((a ^^^ b:Nat):Int)) w):Run P (av .xor T cx cy (.int .i64 x) (.int .i64 y)) w K:=by
 subst hx hy
 exact Lu ha hb hk
end
theorem RdSl.u8 {S:ay} {sl:Value} {ys:List Nat} (h:RdSl S 1 kR sl ys) (h0:0<ys.length):∃ b o cap c E fz,sl=.slice (some ⟨b,o,none⟩) ys.length cap/\S b=some (.cells c E fz)/\
  ∀ i,i<ys.length->∃ y:Nat,c[o+i * 1]?=some (.int .u8 (y:Int))/\y<256:=by
 obtain ⟨a,cap,rfl,hl,hc,h⟩:=h
 rcases h with rfl|⟨b,o,c,E,fz,rfl,hS,hR⟩
 ·simp at h0
 ·refine ⟨b,o,cap,c,E,fz,rfl,hS,fun i hi=>?_⟩
  obtain ⟨h1,h2⟩:=hR i hi
  exact ⟨ys[i],bx h1 0 _ rfl,h2⟩
section
attribute [local irreducible] Run CondV ai a4
abbrev Md (S:ay) (br:Nat) (sl:Value) (p n:Nat):Value->List Item->ay->Prop:=fun v I' S'=>S'=S/\I'=[rdI br sl (p+1)]/\∃ k:Nat,k<n/\v=.int .i64 (k:Int)
theorem dI {ys:List Nat} {S:ay} {sl:Value} {br p n:Nat} (h:RdSl S 1 kR sl ys) (hp:p<=1000000000000) (hn:0<n):Tri Tryz.prog xV [rdP br,.int .i64 (n:Int)] [rdI br sl p] S (Md S br sl p n):=by
 intro w hI
 refine qu ?_
 unfold mC
 obtain ⟨X,hX⟩:∃ X,X=bS [rdI br sl p]:=⟨_,rfl⟩
 rw [<- hX] at hI ⊢
 have hsl:∃ a m cap,sl=.slice a m cap/\m=ys.length:=by
  obtain ⟨a,cap,e,_⟩:=h
  exact ⟨a,_,cap,e,rfl⟩
 refine cG ?_
 refine bj n6 ?_
 refine bB hI 0 bg rfl rfl ?_
 refine bR (by omega) ?_
 refine cG ?_
 refine bj n6 ?_
 refine ei hI 0 (n:=1) rfl (by decide +kernel) rfl (by simp) (by simp [Value.cells,Value.oneCell']) fun w' hI=>?_
 have hI:Inv w X [rdI br sl (p+1)] S w':=hI
 have hN:∃ N:Nat,N=ys.length:=⟨_,rfl⟩
 refine ⟨fun t w'=>t=.bool (decide (ys.length=0))/\Inv w X [rdI br sl (p+1)] S w',?_,?_⟩
 ·refine eU (by omega) ?_
  refine Gd (fun _=>?_) (fun hb=>by simp at hb)
  refine cG ?_
  refine bj fk ?_
  refine bB hI 0 gZ rfl rfl ?_
  refine bm h dX ?_
  refine bO ?_
  refine qo ?_
  refine ⟨?_,hI⟩
  simp
 intro t24 _ _ _ _ _ _ _ _ _ w'
 rintro ⟨rfl,hI⟩
 refine bF (fun _=>⟨_,_,_,rfl,hI,Ext.refl _ _ _,rfl,rfl,0,hn,rfl⟩) (fun h0=>?_)
 have h0:0<ys.length:=by omega
 obtain ⟨b,o,cap,c,E,fz,rfl,hS,hc⟩:=h.u8 h0
 refine cG ?_
 refine bj n6 ?_
 refine bB hI 0 bg rfl rfl ?_
 refine lq (by omega) ?_
 have ep:((p+1:Nat):Int) - 1=(p:Int):=by omega
 rw [ep]
 refine cG ?_
 refine bj fk ?_
 refine bB hI 0 gZ rfl rfl ?_
 refine iE dX ?_
 refine cF ?_
 refine bF (fun hlt=>?_) (fun _=>?_)
 ·have hlt':p<ys.length:=by omega
  obtain ⟨y,hy,hy2⟩:=hc p hlt'
  refine cG ?_
  refine bj fk ?_
  refine bB hI 0 gZ rfl rfl ?_
  refine bq dX hlt' ?_
  refine eE xB ((hI.cellS hS).trans hy) ?_
  refine mR gh gJ (IntWalk.i64_in _ (by omega)) ?_
  refine Ha hn ?_
  exact ⟨_,_,_,rfl,hI,Ext.refl _ _ _,rfl,rfl,y % n,Nat.mod_lt _ hn,rfl⟩
 ·obtain ⟨i1,hd1⟩:∃ i1,i1=p % ys.length:=⟨_,rfl⟩
  obtain ⟨i2,hd2⟩:∃ i2,i2=(p * 7+3) % ys.length:=⟨_,rfl⟩
  obtain ⟨q,hdq⟩:∃ q,q=p / ys.length:=⟨_,rfl⟩
  have hi1:i1<ys.length:=by rw [hd1]; exact Nat.mod_lt _ h0
  have hi2:i2<ys.length:=by rw [hd2]; exact Nat.mod_lt _ h0
  have hq:q<=p:=by rw [hdq]; exact Nat.div_le_self ..
  obtain ⟨y1,hv1,hy1⟩:=hc i1 hi1
  obtain ⟨y2,hv2,hy2⟩:=hc i2 hi2
  skip
  refine ⟨fun D x6 fB fq fC fA fw fl fy fm gU iv iy iw ix ip iu hK eZ eY fa eX fU gb f0 fV fW gV dd de cO dq dr dn di dj dk dp dl dt cS cI cU cQ cP cR cT w_=>(D 0=true->cT=.pointer (some ⟨br,0,none⟩))/\(D 1=true->cR=.pointer (some ⟨br,0,none⟩))/\(D 2=true->cP=.pointer (some ⟨br,0,none⟩))/\(D 3=true->cQ=.slice (some ⟨b,o,none⟩) ys.length cap)/\(D 4=true->cU=.int .i64 (p:Int))/\(D 5=true->cI=.pointer (some ⟨br,0,none⟩))/\(D 6=true->cS=.pointer (some ⟨br,0,none⟩))/\(D 7=true->dt=.pointer (some ⟨br,0,none⟩))/\(D 8=true->dl=.slice (some ⟨b,o,none⟩) ys.length cap)/\(D 9=true->dp=.int .i64 (ys.length:Int))/\(D 10=true->dk=.int .i64 (((i1:Nat):Int)))/\(D 11=true->dj=.pointer (some ⟨b,o+i1 * 1,none⟩))/\(D 12=true->di=.int .u8 ((y1:Nat):Int))/\(D 13=true->dn=.int .i64 (((y1:Nat):Int)))/\(D 14=true->dr=.int .i64 ((((y1:Nat):Int) * 131)))/\(D 15=true->dq=.pointer (some ⟨br,0,none⟩))/\(D 16=true->cO=.pointer (some ⟨br,0,none⟩))/\(D 17=true->de=.pointer (some ⟨br,0,none⟩))/\(D 18=true->dd=.slice (some ⟨b,o,none⟩) ys.length cap)/\(D 19=true->gV=.int .i64 (p:Int))/\(D 20=true->fW=.int .i64 (((p:Int) * 7)))/\(D 21=true->fV=.int .i64 ((((p:Int) * 7)+3)))/\(D 22=true->f0=.pointer (some ⟨br,0,none⟩))/\(D 23=true->gb=.pointer (some ⟨br,0,none⟩))/\(D 24=true->fU=.pointer (some ⟨br,0,none⟩))/\(D 25=true->eX=.slice (some ⟨b,o,none⟩) ys.length cap)/\(D 26=true->fa=.int .i64 (ys.length:Int))/\(D 27=true->eY=.int .i64 (((i2:Nat):Int)))/\(D 28=true->eZ=.pointer (some ⟨b,o+i2 * 1,none⟩))/\(D 29=true->hK=.int .u8 ((y2:Nat):Int))/\(D 30=true->iu=.int .i64 (((y2:Nat):Int)))/\(D 31=true->ip=.int .i64 ((((y2:Nat):Int) * 1117)))/\(D 32=true->ix=.int .i64 (((((y1:Nat):Int) * 131)+(((y2:Nat):Int) * 1117))))/\(D 33=true->iw=.int .i64 (p:Int))/\(D 34=true->iy=.int .i64 (((p:Int) * 29)))/\(D 35=true->iv=.int .i64 ((((((y1:Nat):Int) * 131)+(((y2:Nat):Int) * 1117))+((p:Int) * 29))))/\(D 36=true->gU=.int .i64 (p:Int))/\(D 37=true->fm=.pointer (some ⟨br,0,none⟩))/\(D 38=true->fy=.pointer (some ⟨br,0,none⟩))/\(D 39=true->fl=.pointer (some ⟨br,0,none⟩))/\(D 40=true->fw=.slice (some ⟨b,o,none⟩) ys.length cap)/\(D 41=true->fA=.int .i64 (ys.length:Int))/\(D 42=true->fC=.int .i64 (((q:Nat):Int)))/\(D 43=true->fq=.int .i64 ((((q:Nat):Int) * 53)))/\(D 44=true->fB=.int .i64 (((((((y1:Nat):Int) * 131)+(((y2:Nat):Int) * 1117))+((p:Int) * 29))+(((q:Nat):Int) * 53))))/\(D 45=true->x6=.int .i64 (((((((y1:Nat):Int) * 131)+(((y2:Nat):Int) * 1117))+((p:Int) * 29))+(((q:Nat):Int) * 53))))/\Inv w X [rdI br (.slice (some ⟨b,o,none⟩) ys.length cap) (p+1)] S w_,⟨af,af,af,af,af,af,af,af,af,af,af,af,af,af,af,af,af,af,af,af,af,af,af,af,af,af,af,af,af,af,af,af,af,af,af,af,af,af,af,af,af,af,af,af,af,af,hI.draw⟩,⟨?_,?_,?_,?_,?_,?_,?_,?_,?_,?_,?_,?_,?_,?_,?_,?_,?_,?_,?_,?_,?_,?_,?_,?_,?_,?_,?_,?_,?_,?_,?_,?_,?_,?_,?_,?_,?_,?_,?_,?_,?_,?_,?_,?_,?_,?_,trivial⟩,?_⟩
  ·intro D aS  x6 fB fq fC fA fw fl fy fm gU iv iy iw ix ip iu hK eZ eY fa eX fU gb f0 fV fW gV dd de cO dq dr dn di dj dk dp dl dt cS cI cU cQ cP cR cT w_
   rintro ⟨aA,az,aB,ax,aD,aC,aw,aJ,aN,aR,aq,au,aH,aU,aX,aW,aY,aV,aZ,a6,bd,be,ba,bf,bh,ct,ch,cu,ca,bY,ci,cn,cj,cv,cr,co,bX,cg,b0,cf,bZ,cm,cd,ce,cq,cw,hI⟩
   exact ⟨fun _=>rfl,az,aB,ax,aD,aC,aw,aJ,aN,aR,aq,au,aH,aU,aX,aW,aY,aV,aZ,a6,bd,be,ba,bf,bh,ct,ch,cu,ca,bY,ci,cn,cj,cv,cr,co,bX,cg,b0,cf,bZ,cm,cd,ce,cq,cw,hI⟩
  ·intro D aS cA x6 fB fq fC fA fw fl fy fm gU iv iy iw ix ip iu hK eZ eY fa eX fU gb f0 fV fW gV dd de cO dq dr dn di dj dk dp dl dt cS cI cU cQ cP cR cT w_
   rintro ⟨aA,az,aB,ax,aD,aC,aw,aJ,aN,aR,aq,au,aH,aU,aX,aW,aY,aV,aZ,a6,bd,be,ba,bf,bh,ct,ch,cu,ca,bY,ci,cn,cj,cv,cr,co,bX,cg,b0,cf,bZ,cm,cd,ce,cq,cw,hI⟩
   obtain rfl:=aA cA
   refine cG ?_
   exact ⟨aA,fun _=>rfl,aB,ax,aD,aC,aw,aJ,aN,aR,aq,au,aH,aU,aX,aW,aY,aV,aZ,a6,bd,be,ba,bf,bh,ct,ch,cu,ca,bY,ci,cn,cj,cv,cr,co,bX,cg,b0,cf,bZ,cm,cd,ce,cq,cw,hI⟩
  ·intro D aS dB x6 fB fq fC fA fw fl fy fm gU iv iy iw ix ip iu hK eZ eY fa eX fU gb f0 fV fW gV dd de cO dq dr dn di dj dk dp dl dt cS cI cU cQ cP cR cT w_
   rintro ⟨aA,az,aB,ax,aD,aC,aw,aJ,aN,aR,aq,au,aH,aU,aX,aW,aY,aV,aZ,a6,bd,be,ba,bf,bh,ct,ch,cu,ca,bY,ci,cn,cj,cv,cr,co,bX,cg,b0,cf,bZ,cm,cd,ce,cq,cw,hI⟩
   obtain rfl:=az dB
   refine bj fk ?_
   exact ⟨aA,az,fun _=>rfl,ax,aD,aC,aw,aJ,aN,aR,aq,au,aH,aU,aX,aW,aY,aV,aZ,a6,bd,be,ba,bf,bh,ct,ch,cu,ca,bY,ci,cn,cj,cv,cr,co,bX,cg,b0,cf,bZ,cm,cd,ce,cq,cw,hI⟩
  ·intro D aS cM x6 fB fq fC fA fw fl fy fm gU iv iy iw ix ip iu hK eZ eY fa eX fU gb f0 fV fW gV dd de cO dq dr dn di dj dk dp dl dt cS cI cU cQ cP cR cT w_
   rintro ⟨aA,az,aB,ax,aD,aC,aw,aJ,aN,aR,aq,au,aH,aU,aX,aW,aY,aV,aZ,a6,bd,be,ba,bf,bh,ct,ch,cu,ca,bY,ci,cn,cj,cv,cr,co,bX,cg,b0,cf,bZ,cm,cd,ce,cq,cw,hI⟩
   obtain rfl:=aB cM
   refine bB hI 0 gZ rfl rfl ?_
   exact ⟨aA,az,aB,fun _=>rfl,aD,aC,aw,aJ,aN,aR,aq,au,aH,aU,aX,aW,aY,aV,aZ,a6,bd,be,ba,bf,bh,ct,ch,cu,ca,bY,ci,cn,cj,cv,cr,co,bX,cg,b0,cf,bZ,cm,cd,ce,cq,cw,hI⟩
  ·intro D aS  x6 fB fq fC fA fw fl fy fm gU iv iy iw ix ip iu hK eZ eY fa eX fU gb f0 fV fW gV dd de cO dq dr dn di dj dk dp dl dt cS cI cU cQ cP cR cT w_
   rintro ⟨aA,az,aB,ax,aD,aC,aw,aJ,aN,aR,aq,au,aH,aU,aX,aW,aY,aV,aZ,a6,bd,be,ba,bf,bh,ct,ch,cu,ca,bY,ci,cn,cj,cv,cr,co,bX,cg,b0,cf,bZ,cm,cd,ce,cq,cw,hI⟩
   exact ⟨aA,az,aB,ax,fun _=>rfl,aC,aw,aJ,aN,aR,aq,au,aH,aU,aX,aW,aY,aV,aZ,a6,bd,be,ba,bf,bh,ct,ch,cu,ca,bY,ci,cn,cj,cv,cr,co,bX,cg,b0,cf,bZ,cm,cd,ce,cq,cw,hI⟩
  ·intro D aS  x6 fB fq fC fA fw fl fy fm gU iv iy iw ix ip iu hK eZ eY fa eX fU gb f0 fV fW gV dd de cO dq dr dn di dj dk dp dl dt cS cI cU cQ cP cR cT w_
   rintro ⟨aA,az,aB,ax,aD,aC,aw,aJ,aN,aR,aq,au,aH,aU,aX,aW,aY,aV,aZ,a6,bd,be,ba,bf,bh,ct,ch,cu,ca,bY,ci,cn,cj,cv,cr,co,bX,cg,b0,cf,bZ,cm,cd,ce,cq,cw,hI⟩
   exact ⟨aA,az,aB,ax,aD,fun _=>rfl,aw,aJ,aN,aR,aq,au,aH,aU,aX,aW,aY,aV,aZ,a6,bd,be,ba,bf,bh,ct,ch,cu,ca,bY,ci,cn,cj,cv,cr,co,bX,cg,b0,cf,bZ,cm,cd,ce,cq,cw,hI⟩
  ·intro D aS dT x6 fB fq fC fA fw fl fy fm gU iv iy iw ix ip iu hK eZ eY fa eX fU gb f0 fV fW gV dd de cO dq dr dn di dj dk dp dl dt cS cI cU cQ cP cR cT w_
   rintro ⟨aA,az,aB,ax,aD,aC,aw,aJ,aN,aR,aq,au,aH,aU,aX,aW,aY,aV,aZ,a6,bd,be,ba,bf,bh,ct,ch,cu,ca,bY,ci,cn,cj,cv,cr,co,bX,cg,b0,cf,bZ,cm,cd,ce,cq,cw,hI⟩
   obtain rfl:=aC dT
   refine cG ?_
   exact ⟨aA,az,aB,ax,aD,aC,fun _=>rfl,aJ,aN,aR,aq,au,aH,aU,aX,aW,aY,aV,aZ,a6,bd,be,ba,bf,bh,ct,ch,cu,ca,bY,ci,cn,cj,cv,cr,co,bX,cg,b0,cf,bZ,cm,cd,ce,cq,cw,hI⟩
  ·intro D aS bW x6 fB fq fC fA fw fl fy fm gU iv iy iw ix ip iu hK eZ eY fa eX fU gb f0 fV fW gV dd de cO dq dr dn di dj dk dp dl dt cS cI cU cQ cP cR cT w_
   rintro ⟨aA,az,aB,ax,aD,aC,aw,aJ,aN,aR,aq,au,aH,aU,aX,aW,aY,aV,aZ,a6,bd,be,ba,bf,bh,ct,ch,cu,ca,bY,ci,cn,cj,cv,cr,co,bX,cg,b0,cf,bZ,cm,cd,ce,cq,cw,hI⟩
   obtain rfl:=aw bW
   refine bj fk ?_
   exact ⟨aA,az,aB,ax,aD,aC,aw,fun _=>rfl,aN,aR,aq,au,aH,aU,aX,aW,aY,aV,aZ,a6,bd,be,ba,bf,bh,ct,ch,cu,ca,bY,ci,cn,cj,cv,cr,co,bX,cg,b0,cf,bZ,cm,cd,ce,cq,cw,hI⟩
  ·intro D aS eo x6 fB fq fC fA fw fl fy fm gU iv iy iw ix ip iu hK eZ eY fa eX fU gb f0 fV fW gV dd de cO dq dr dn di dj dk dp dl dt cS cI cU cQ cP cR cT w_
   rintro ⟨aA,az,aB,ax,aD,aC,aw,aJ,aN,aR,aq,au,aH,aU,aX,aW,aY,aV,aZ,a6,bd,be,ba,bf,bh,ct,ch,cu,ca,bY,ci,cn,cj,cv,cr,co,bX,cg,b0,cf,bZ,cm,cd,ce,cq,cw,hI⟩
   obtain rfl:=aJ eo
   refine bB hI 0 gZ rfl rfl ?_
   exact ⟨aA,az,aB,ax,aD,aC,aw,aJ,fun _=>rfl,aR,aq,au,aH,aU,aX,aW,aY,aV,aZ,a6,bd,be,ba,bf,bh,ct,ch,cu,ca,bY,ci,cn,cj,cv,cr,co,bX,cg,b0,cf,bZ,cm,cd,ce,cq,cw,hI⟩
  ·intro D aS iP x6 fB fq fC fA fw fl fy fm gU iv iy iw ix ip iu hK eZ eY fa eX fU gb f0 fV fW gV dd de cO dq dr dn di dj dk dp dl dt cS cI cU cQ cP cR cT w_
   rintro ⟨aA,az,aB,ax,aD,aC,aw,aJ,aN,aR,aq,au,aH,aU,aX,aW,aY,aV,aZ,a6,bd,be,ba,bf,bh,ct,ch,cu,ca,bY,ci,cn,cj,cv,cr,co,bX,cg,b0,cf,bZ,cm,cd,ce,cq,cw,hI⟩
   obtain rfl:=aN iP
   refine iE dX ?_
   exact ⟨aA,az,aB,ax,aD,aC,aw,aJ,aN,fun _=>rfl,aq,au,aH,aU,aX,aW,aY,aV,aZ,a6,bd,be,ba,bf,bh,ct,ch,cu,ca,bY,ci,cn,cj,cv,cr,co,bX,cg,b0,cf,bZ,cm,cd,ce,cq,cw,hI⟩
  ·intro D aS fO eQ x6 fB fq fC fA fw fl fy fm gU iv iy iw ix ip iu hK eZ eY fa eX fU gb f0 fV fW gV dd de cO dq dr dn di dj dk dp dl dt cS cI cU cQ cP cR cT w_
   rintro ⟨aA,az,aB,ax,aD,aC,aw,aJ,aN,aR,aq,au,aH,aU,aX,aW,aY,aV,aZ,a6,bd,be,ba,bf,bh,ct,ch,cu,ca,bY,ci,cn,cj,cv,cr,co,bX,cg,b0,cf,bZ,cm,cd,ce,cq,cw,hI⟩
   obtain rfl:=aD fO
   obtain rfl:=aR eQ
   refine Fy (a:=p) (b:=ys.length) (by omega) rfl h0 ?_; rw [<- hd1]
   exact ⟨aA,az,aB,ax,aD,aC,aw,aJ,aN,aR,fun _=>rfl,au,aH,aU,aX,aW,aY,aV,aZ,a6,bd,be,ba,bf,bh,ct,ch,cu,ca,bY,ci,cn,cj,cv,cr,co,bX,cg,b0,cf,bZ,cm,cd,ce,cq,cw,hI⟩
  ·intro D aS dh gE x6 fB fq fC fA fw fl fy fm gU iv iy iw ix ip iu hK eZ eY fa eX fU gb f0 fV fW gV dd de cO dq dr dn di dj dk dp dl dt cS cI cU cQ cP cR cT w_
   rintro ⟨aA,az,aB,ax,aD,aC,aw,aJ,aN,aR,aq,au,aH,aU,aX,aW,aY,aV,aZ,a6,bd,be,ba,bf,bh,ct,ch,cu,ca,bY,ci,cn,cj,cv,cr,co,bX,cg,b0,cf,bZ,cm,cd,ce,cq,cw,hI⟩
   obtain rfl:=ax dh
   obtain rfl:=aq gE
   refine bq dX hi1 ?_
   exact ⟨aA,az,aB,ax,aD,aC,aw,aJ,aN,aR,aq,fun _=>rfl,aH,aU,aX,aW,aY,aV,aZ,a6,bd,be,ba,bf,bh,ct,ch,cu,ca,bY,ci,cn,cj,cv,cr,co,bX,cg,b0,cf,bZ,cm,cd,ce,cq,cw,hI⟩
  ·intro D aS j0 x6 fB fq fC fA fw fl fy fm gU iv iy iw ix ip iu hK eZ eY fa eX fU gb f0 fV fW gV dd de cO dq dr dn di dj dk dp dl dt cS cI cU cQ cP cR cT w_
   rintro ⟨aA,az,aB,ax,aD,aC,aw,aJ,aN,aR,aq,au,aH,aU,aX,aW,aY,aV,aZ,a6,bd,be,ba,bf,bh,ct,ch,cu,ca,bY,ci,cn,cj,cv,cr,co,bX,cg,b0,cf,bZ,cm,cd,ce,cq,cw,hI⟩
   obtain rfl:=au j0
   refine eE xB ((hI.cellS hS).trans hv1) ?_
   exact ⟨aA,az,aB,ax,aD,aC,aw,aJ,aN,aR,aq,au,fun _=>rfl,aU,aX,aW,aY,aV,aZ,a6,bd,be,ba,bf,bh,ct,ch,cu,ca,bY,ci,cn,cj,cv,cr,co,bX,cg,b0,cf,bZ,cm,cd,ce,cq,cw,hI⟩
  ·intro D aS tp x6 fB fq fC fA fw fl fy fm gU iv iy iw ix ip iu hK eZ eY fa eX fU gb f0 fV fW gV dd de cO dq dr dn di dj dk dp dl dt cS cI cU cQ cP cR cT w_
   rintro ⟨aA,az,aB,ax,aD,aC,aw,aJ,aN,aR,aq,au,aH,aU,aX,aW,aY,aV,aZ,a6,bd,be,ba,bf,bh,ct,ch,cu,ca,bY,ci,cn,cj,cv,cr,co,bX,cg,b0,cf,bZ,cm,cd,ce,cq,cw,hI⟩
   obtain rfl:=aH tp
   refine mR gh gJ (IntWalk.i64_in _ (by omega)) ?_
   exact ⟨aA,az,aB,ax,aD,aC,aw,aJ,aN,aR,aq,au,aH,fun _=>rfl,aX,aW,aY,aV,aZ,a6,bd,be,ba,bf,bh,ct,ch,cu,ca,bY,ci,cn,cj,cv,cr,co,bX,cg,b0,cf,bZ,cm,cd,ce,cq,cw,hI⟩
  ·intro D aS tm x6 fB fq fC fA fw fl fy fm gU iv iy iw ix ip iu hK eZ eY fa eX fU gb f0 fV fW gV dd de cO dq dr dn di dj dk dp dl dt cS cI cU cQ cP cR cT w_
   rintro ⟨aA,az,aB,ax,aD,aC,aw,aJ,aN,aR,aq,au,aH,aU,aX,aW,aY,aV,aZ,a6,bd,be,ba,bf,bh,ct,ch,cu,ca,bY,ci,cn,cj,cv,cr,co,bX,cg,b0,cf,bZ,cm,cd,ce,cq,cw,hI⟩
   obtain rfl:=aU tm
   refine yw (by omega) ?_
   exact ⟨aA,az,aB,ax,aD,aC,aw,aJ,aN,aR,aq,au,aH,aU,fun _=>rfl,aW,aY,aV,aZ,a6,bd,be,ba,bf,bh,ct,ch,cu,ca,bY,ci,cn,cj,cv,cr,co,bX,cg,b0,cf,bZ,cm,cd,ce,cq,cw,hI⟩
  ·intro D aS  x6 fB fq fC fA fw fl fy fm gU iv iy iw ix ip iu hK eZ eY fa eX fU gb f0 fV fW gV dd de cO dq dr dn di dj dk dp dl dt cS cI cU cQ cP cR cT w_
   rintro ⟨aA,az,aB,ax,aD,aC,aw,aJ,aN,aR,aq,au,aH,aU,aX,aW,aY,aV,aZ,a6,bd,be,ba,bf,bh,ct,ch,cu,ca,bY,ci,cn,cj,cv,cr,co,bX,cg,b0,cf,bZ,cm,cd,ce,cq,cw,hI⟩
   exact ⟨aA,az,aB,ax,aD,aC,aw,aJ,aN,aR,aq,au,aH,aU,aX,fun _=>rfl,aY,aV,aZ,a6,bd,be,ba,bf,bh,ct,ch,cu,ca,bY,ci,cn,cj,cv,cr,co,bX,cg,b0,cf,bZ,cm,cd,ce,cq,cw,hI⟩
  ·intro D aS xM x6 fB fq fC fA fw fl fy fm gU iv iy iw ix ip iu hK eZ eY fa eX fU gb f0 fV fW gV dd de cO dq dr dn di dj dk dp dl dt cS cI cU cQ cP cR cT w_
   rintro ⟨aA,az,aB,ax,aD,aC,aw,aJ,aN,aR,aq,au,aH,aU,aX,aW,aY,aV,aZ,a6,bd,be,ba,bf,bh,ct,ch,cu,ca,bY,ci,cn,cj,cv,cr,co,bX,cg,b0,cf,bZ,cm,cd,ce,cq,cw,hI⟩
   obtain rfl:=aW xM
   refine cG ?_
   exact ⟨aA,az,aB,ax,aD,aC,aw,aJ,aN,aR,aq,au,aH,aU,aX,aW,fun _=>rfl,aV,aZ,a6,bd,be,ba,bf,bh,ct,ch,cu,ca,bY,ci,cn,cj,cv,cr,co,bX,cg,b0,cf,bZ,cm,cd,ce,cq,cw,hI⟩
  ·intro D aS LL x6 fB fq fC fA fw fl fy fm gU iv iy iw ix ip iu hK eZ eY fa eX fU gb f0 fV fW gV dd de cO dq dr dn di dj dk dp dl dt cS cI cU cQ cP cR cT w_
   rintro ⟨aA,az,aB,ax,aD,aC,aw,aJ,aN,aR,aq,au,aH,aU,aX,aW,aY,aV,aZ,a6,bd,be,ba,bf,bh,ct,ch,cu,ca,bY,ci,cn,cj,cv,cr,co,bX,cg,b0,cf,bZ,cm,cd,ce,cq,cw,hI⟩
   obtain rfl:=aY LL
   refine bj fk ?_
   exact ⟨aA,az,aB,ax,aD,aC,aw,aJ,aN,aR,aq,au,aH,aU,aX,aW,aY,fun _=>rfl,aZ,a6,bd,be,ba,bf,bh,ct,ch,cu,ca,bY,ci,cn,cj,cv,cr,co,bX,cg,b0,cf,bZ,cm,cd,ce,cq,cw,hI⟩
  ·intro D aS JY x6 fB fq fC fA fw fl fy fm gU iv iy iw ix ip iu hK eZ eY fa eX fU gb f0 fV fW gV dd de cO dq dr dn di dj dk dp dl dt cS cI cU cQ cP cR cT w_
   rintro ⟨aA,az,aB,ax,aD,aC,aw,aJ,aN,aR,aq,au,aH,aU,aX,aW,aY,aV,aZ,a6,bd,be,ba,bf,bh,ct,ch,cu,ca,bY,ci,cn,cj,cv,cr,co,bX,cg,b0,cf,bZ,cm,cd,ce,cq,cw,hI⟩
   obtain rfl:=aV JY
   refine bB hI 0 gZ rfl rfl ?_
   exact ⟨aA,az,aB,ax,aD,aC,aw,aJ,aN,aR,aq,au,aH,aU,aX,aW,aY,aV,fun _=>rfl,a6,bd,be,ba,bf,bh,ct,ch,cu,ca,bY,ci,cn,cj,cv,cr,co,bX,cg,b0,cf,bZ,cm,cd,ce,cq,cw,hI⟩
  ·intro D aS  x6 fB fq fC fA fw fl fy fm gU iv iy iw ix ip iu hK eZ eY fa eX fU gb f0 fV fW gV dd de cO dq dr dn di dj dk dp dl dt cS cI cU cQ cP cR cT w_
   rintro ⟨aA,az,aB,ax,aD,aC,aw,aJ,aN,aR,aq,au,aH,aU,aX,aW,aY,aV,aZ,a6,bd,be,ba,bf,bh,ct,ch,cu,ca,bY,ci,cn,cj,cv,cr,co,bX,cg,b0,cf,bZ,cm,cd,ce,cq,cw,hI⟩
   exact ⟨aA,az,aB,ax,aD,aC,aw,aJ,aN,aR,aq,au,aH,aU,aX,aW,aY,aV,aZ,fun _=>rfl,bd,be,ba,bf,bh,ct,ch,cu,ca,bY,ci,cn,cj,cv,cr,co,bX,cg,b0,cf,bZ,cm,cd,ce,cq,cw,hI⟩
  ·intro D aS iq x6 fB fq fC fA fw fl fy fm gU iv iy iw ix ip iu hK eZ eY fa eX fU gb f0 fV fW gV dd de cO dq dr dn di dj dk dp dl dt cS cI cU cQ cP cR cT w_
   rintro ⟨aA,az,aB,ax,aD,aC,aw,aJ,aN,aR,aq,au,aH,aU,aX,aW,aY,aV,aZ,a6,bd,be,ba,bf,bh,ct,ch,cu,ca,bY,ci,cn,cj,cv,cr,co,bX,cg,b0,cf,bZ,cm,cd,ce,cq,cw,hI⟩
   obtain rfl:=a6 iq
   refine yw (by omega) ?_
   exact ⟨aA,az,aB,ax,aD,aC,aw,aJ,aN,aR,aq,au,aH,aU,aX,aW,aY,aV,aZ,a6,fun _=>rfl,be,ba,bf,bh,ct,ch,cu,ca,bY,ci,cn,cj,cv,cr,co,bX,cg,b0,cf,bZ,cm,cd,ce,cq,cw,hI⟩
  ·intro D aS yy x6 fB fq fC fA fw fl fy fm gU iv iy iw ix ip iu hK eZ eY fa eX fU gb f0 fV fW gV dd de cO dq dr dn di dj dk dp dl dt cS cI cU cQ cP cR cT w_
   rintro ⟨aA,az,aB,ax,aD,aC,aw,aJ,aN,aR,aq,au,aH,aU,aX,aW,aY,aV,aZ,a6,bd,be,ba,bf,bh,ct,ch,cu,ca,bY,ci,cn,cj,cv,cr,co,bX,cg,b0,cf,bZ,cm,cd,ce,cq,cw,hI⟩
   obtain rfl:=bd yy
   refine bR (by omega) ?_
   exact ⟨aA,az,aB,ax,aD,aC,aw,aJ,aN,aR,aq,au,aH,aU,aX,aW,aY,aV,aZ,a6,bd,fun _=>rfl,ba,bf,bh,ct,ch,cu,ca,bY,ci,cn,cj,cv,cr,co,bX,cg,b0,cf,bZ,cm,cd,ce,cq,cw,hI⟩
  ·intro D aS  x6 fB fq fC fA fw fl fy fm gU iv iy iw ix ip iu hK eZ eY fa eX fU gb f0 fV fW gV dd de cO dq dr dn di dj dk dp dl dt cS cI cU cQ cP cR cT w_
   rintro ⟨aA,az,aB,ax,aD,aC,aw,aJ,aN,aR,aq,au,aH,aU,aX,aW,aY,aV,aZ,a6,bd,be,ba,bf,bh,ct,ch,cu,ca,bY,ci,cn,cj,cv,cr,co,bX,cg,b0,cf,bZ,cm,cd,ce,cq,cw,hI⟩
   exact ⟨aA,az,aB,ax,aD,aC,aw,aJ,aN,aR,aq,au,aH,aU,aX,aW,aY,aV,aZ,a6,bd,be,fun _=>rfl,bf,bh,ct,ch,cu,ca,bY,ci,cn,cj,cv,cr,co,bX,cg,b0,cf,bZ,cm,cd,ce,cq,cw,hI⟩
  ·intro D aS Ma x6 fB fq fC fA fw fl fy fm gU iv iy iw ix ip iu hK eZ eY fa eX fU gb f0 fV fW gV dd de cO dq dr dn di dj dk dp dl dt cS cI cU cQ cP cR cT w_
   rintro ⟨aA,az,aB,ax,aD,aC,aw,aJ,aN,aR,aq,au,aH,aU,aX,aW,aY,aV,aZ,a6,bd,be,ba,bf,bh,ct,ch,cu,ca,bY,ci,cn,cj,cv,cr,co,bX,cg,b0,cf,bZ,cm,cd,ce,cq,cw,hI⟩
   obtain rfl:=ba Ma
   refine cG ?_
   exact ⟨aA,az,aB,ax,aD,aC,aw,aJ,aN,aR,aq,au,aH,aU,aX,aW,aY,aV,aZ,a6,bd,be,ba,fun _=>rfl,bh,ct,ch,cu,ca,bY,ci,cn,cj,cv,cr,co,bX,cg,b0,cf,bZ,cm,cd,ce,cq,cw,hI⟩
  ·intro D aS Ml x6 fB fq fC fA fw fl fy fm gU iv iy iw ix ip iu hK eZ eY fa eX fU gb f0 fV fW gV dd de cO dq dr dn di dj dk dp dl dt cS cI cU cQ cP cR cT w_
   rintro ⟨aA,az,aB,ax,aD,aC,aw,aJ,aN,aR,aq,au,aH,aU,aX,aW,aY,aV,aZ,a6,bd,be,ba,bf,bh,ct,ch,cu,ca,bY,ci,cn,cj,cv,cr,co,bX,cg,b0,cf,bZ,cm,cd,ce,cq,cw,hI⟩
   obtain rfl:=bf Ml
   refine bj fk ?_
   exact ⟨aA,az,aB,ax,aD,aC,aw,aJ,aN,aR,aq,au,aH,aU,aX,aW,aY,aV,aZ,a6,bd,be,ba,bf,fun _=>rfl,ct,ch,cu,ca,bY,ci,cn,cj,cv,cr,co,bX,cg,b0,cf,bZ,cm,cd,ce,cq,cw,hI⟩
  ·intro D aS LP x6 fB fq fC fA fw fl fy fm gU iv iy iw ix ip iu hK eZ eY fa eX fU gb f0 fV fW gV dd de cO dq dr dn di dj dk dp dl dt cS cI cU cQ cP cR cT w_
   rintro ⟨aA,az,aB,ax,aD,aC,aw,aJ,aN,aR,aq,au,aH,aU,aX,aW,aY,aV,aZ,a6,bd,be,ba,bf,bh,ct,ch,cu,ca,bY,ci,cn,cj,cv,cr,co,bX,cg,b0,cf,bZ,cm,cd,ce,cq,cw,hI⟩
   obtain rfl:=bh LP
   refine bB hI 0 gZ rfl rfl ?_
   exact ⟨aA,az,aB,ax,aD,aC,aw,aJ,aN,aR,aq,au,aH,aU,aX,aW,aY,aV,aZ,a6,bd,be,ba,bf,bh,fun _=>rfl,ch,cu,ca,bY,ci,cn,cj,cv,cr,co,bX,cg,b0,cf,bZ,cm,cd,ce,cq,cw,hI⟩
  ·intro D aS LT x6 fB fq fC fA fw fl fy fm gU iv iy iw ix ip iu hK eZ eY fa eX fU gb f0 fV fW gV dd de cO dq dr dn di dj dk dp dl dt cS cI cU cQ cP cR cT w_
   rintro ⟨aA,az,aB,ax,aD,aC,aw,aJ,aN,aR,aq,au,aH,aU,aX,aW,aY,aV,aZ,a6,bd,be,ba,bf,bh,ct,ch,cu,ca,bY,ci,cn,cj,cv,cr,co,bX,cg,b0,cf,bZ,cm,cd,ce,cq,cw,hI⟩
   obtain rfl:=ct LT
   refine iE dX ?_
   exact ⟨aA,az,aB,ax,aD,aC,aw,aJ,aN,aR,aq,au,aH,aU,aX,aW,aY,aV,aZ,a6,bd,be,ba,bf,bh,ct,fun _=>rfl,cu,ca,bY,ci,cn,cj,cv,cr,co,bX,cg,b0,cf,bZ,cm,cd,ce,cq,cw,hI⟩
  ·intro D aS y5 Mj x6 fB fq fC fA fw fl fy fm gU iv iy iw ix ip iu hK eZ eY fa eX fU gb f0 fV fW gV dd de cO dq dr dn di dj dk dp dl dt cS cI cU cQ cP cR cT w_
   rintro ⟨aA,az,aB,ax,aD,aC,aw,aJ,aN,aR,aq,au,aH,aU,aX,aW,aY,aV,aZ,a6,bd,be,ba,bf,bh,ct,ch,cu,ca,bY,ci,cn,cj,cv,cr,co,bX,cg,b0,cf,bZ,cm,cd,ce,cq,cw,hI⟩
   obtain rfl:=be y5
   obtain rfl:=ch Mj
   refine Fy (a:=p * 7+3) (b:=ys.length) (by omega) rfl h0 ?_; rw [<- hd2]
   exact ⟨aA,az,aB,ax,aD,aC,aw,aJ,aN,aR,aq,au,aH,aU,aX,aW,aY,aV,aZ,a6,bd,be,ba,bf,bh,ct,ch,fun _=>rfl,ca,bY,ci,cn,cj,cv,cr,co,bX,cg,b0,cf,bZ,cm,cd,ce,cq,cw,hI⟩
  ·intro D aS zu LO x6 fB fq fC fA fw fl fy fm gU iv iy iw ix ip iu hK eZ eY fa eX fU gb f0 fV fW gV dd de cO dq dr dn di dj dk dp dl dt cS cI cU cQ cP cR cT w_
   rintro ⟨aA,az,aB,ax,aD,aC,aw,aJ,aN,aR,aq,au,aH,aU,aX,aW,aY,aV,aZ,a6,bd,be,ba,bf,bh,ct,ch,cu,ca,bY,ci,cn,cj,cv,cr,co,bX,cg,b0,cf,bZ,cm,cd,ce,cq,cw,hI⟩
   obtain rfl:=aZ zu
   obtain rfl:=cu LO
   refine bq dX hi2 ?_
   exact ⟨aA,az,aB,ax,aD,aC,aw,aJ,aN,aR,aq,au,aH,aU,aX,aW,aY,aV,aZ,a6,bd,be,ba,bf,bh,ct,ch,cu,fun _=>rfl,bY,ci,cn,cj,cv,cr,co,bX,cg,b0,cf,bZ,cm,cd,ce,cq,cw,hI⟩
  ·intro D aS Mc x6 fB fq fC fA fw fl fy fm gU iv iy iw ix ip iu hK eZ eY fa eX fU gb f0 fV fW gV dd de cO dq dr dn di dj dk dp dl dt cS cI cU cQ cP cR cT w_
   rintro ⟨aA,az,aB,ax,aD,aC,aw,aJ,aN,aR,aq,au,aH,aU,aX,aW,aY,aV,aZ,a6,bd,be,ba,bf,bh,ct,ch,cu,ca,bY,ci,cn,cj,cv,cr,co,bX,cg,b0,cf,bZ,cm,cd,ce,cq,cw,hI⟩
   obtain rfl:=ca Mc
   refine eE xB ((hI.cellS hS).trans hv2) ?_
   exact ⟨aA,az,aB,ax,aD,aC,aw,aJ,aN,aR,aq,au,aH,aU,aX,aW,aY,aV,aZ,a6,bd,be,ba,bf,bh,ct,ch,cu,ca,fun _=>rfl,ci,cn,cj,cv,cr,co,bX,cg,b0,cf,bZ,cm,cd,ce,cq,cw,hI⟩
  ·intro D aS L6 x6 fB fq fC fA fw fl fy fm gU iv iy iw ix ip iu hK eZ eY fa eX fU gb f0 fV fW gV dd de cO dq dr dn di dj dk dp dl dt cS cI cU cQ cP cR cT w_
   rintro ⟨aA,az,aB,ax,aD,aC,aw,aJ,aN,aR,aq,au,aH,aU,aX,aW,aY,aV,aZ,a6,bd,be,ba,bf,bh,ct,ch,cu,ca,bY,ci,cn,cj,cv,cr,co,bX,cg,b0,cf,bZ,cm,cd,ce,cq,cw,hI⟩
   obtain rfl:=bY L6
   refine mR gh gJ (IntWalk.i64_in _ (by omega)) ?_
   exact ⟨aA,az,aB,ax,aD,aC,aw,aJ,aN,aR,aq,au,aH,aU,aX,aW,aY,aV,aZ,a6,bd,be,ba,bf,bh,ct,ch,cu,ca,bY,fun _=>rfl,cn,cj,cv,cr,co,bX,cg,b0,cf,bZ,cm,cd,ce,cq,cw,hI⟩
  ·intro D aS Mf x6 fB fq fC fA fw fl fy fm gU iv iy iw ix ip iu hK eZ eY fa eX fU gb f0 fV fW gV dd de cO dq dr dn di dj dk dp dl dt cS cI cU cQ cP cR cT w_
   rintro ⟨aA,az,aB,ax,aD,aC,aw,aJ,aN,aR,aq,au,aH,aU,aX,aW,aY,aV,aZ,a6,bd,be,ba,bf,bh,ct,ch,cu,ca,bY,ci,cn,cj,cv,cr,co,bX,cg,b0,cf,bZ,cm,cd,ce,cq,cw,hI⟩
   obtain rfl:=ci Mf
   refine yw (by omega) ?_
   exact ⟨aA,az,aB,ax,aD,aC,aw,aJ,aN,aR,aq,au,aH,aU,aX,aW,aY,aV,aZ,a6,bd,be,ba,bf,bh,ct,ch,cu,ca,bY,ci,fun _=>rfl,cj,cv,cr,co,bX,cg,b0,cf,bZ,cm,cd,ce,cq,cw,hI⟩
  ·intro D aS KE L7 x6 fB fq fC fA fw fl fy fm gU iv iy iw ix ip iu hK eZ eY fa eX fU gb f0 fV fW gV dd de cO dq dr dn di dj dk dp dl dt cS cI cU cQ cP cR cT w_
   rintro ⟨aA,az,aB,ax,aD,aC,aw,aJ,aN,aR,aq,au,aH,aU,aX,aW,aY,aV,aZ,a6,bd,be,ba,bf,bh,ct,ch,cu,ca,bY,ci,cn,cj,cv,cr,co,bX,cg,b0,cf,bZ,cm,cd,ce,cq,cw,hI⟩
   obtain rfl:=aX KE
   obtain rfl:=cn L7
   refine bR (by omega) ?_
   exact ⟨aA,az,aB,ax,aD,aC,aw,aJ,aN,aR,aq,au,aH,aU,aX,aW,aY,aV,aZ,a6,bd,be,ba,bf,bh,ct,ch,cu,ca,bY,ci,cn,fun _=>rfl,cv,cr,co,bX,cg,b0,cf,bZ,cm,cd,ce,cq,cw,hI⟩
  ·intro D aS  x6 fB fq fC fA fw fl fy fm gU iv iy iw ix ip iu hK eZ eY fa eX fU gb f0 fV fW gV dd de cO dq dr dn di dj dk dp dl dt cS cI cU cQ cP cR cT w_
   rintro ⟨aA,az,aB,ax,aD,aC,aw,aJ,aN,aR,aq,au,aH,aU,aX,aW,aY,aV,aZ,a6,bd,be,ba,bf,bh,ct,ch,cu,ca,bY,ci,cn,cj,cv,cr,co,bX,cg,b0,cf,bZ,cm,cd,ce,cq,cw,hI⟩
   exact ⟨aA,az,aB,ax,aD,aC,aw,aJ,aN,aR,aq,au,aH,aU,aX,aW,aY,aV,aZ,a6,bd,be,ba,bf,bh,ct,ch,cu,ca,bY,ci,cn,cj,fun _=>rfl,cr,co,bX,cg,b0,cf,bZ,cm,cd,ce,cq,cw,hI⟩
  ·intro D aS L4 x6 fB fq fC fA fw fl fy fm gU iv iy iw ix ip iu hK eZ eY fa eX fU gb f0 fV fW gV dd de cO dq dr dn di dj dk dp dl dt cS cI cU cQ cP cR cT w_
   rintro ⟨aA,az,aB,ax,aD,aC,aw,aJ,aN,aR,aq,au,aH,aU,aX,aW,aY,aV,aZ,a6,bd,be,ba,bf,bh,ct,ch,cu,ca,bY,ci,cn,cj,cv,cr,co,bX,cg,b0,cf,bZ,cm,cd,ce,cq,cw,hI⟩
   obtain rfl:=cv L4
   refine yw (by omega) ?_
   exact ⟨aA,az,aB,ax,aD,aC,aw,aJ,aN,aR,aq,au,aH,aU,aX,aW,aY,aV,aZ,a6,bd,be,ba,bf,bh,ct,ch,cu,ca,bY,ci,cn,cj,cv,fun _=>rfl,co,bX,cg,b0,cf,bZ,cm,cd,ce,cq,cw,hI⟩
  ·intro D aS LN Me x6 fB fq fC fA fw fl fy fm gU iv iy iw ix ip iu hK eZ eY fa eX fU gb f0 fV fW gV dd de cO dq dr dn di dj dk dp dl dt cS cI cU cQ cP cR cT w_
   rintro ⟨aA,az,aB,ax,aD,aC,aw,aJ,aN,aR,aq,au,aH,aU,aX,aW,aY,aV,aZ,a6,bd,be,ba,bf,bh,ct,ch,cu,ca,bY,ci,cn,cj,cv,cr,co,bX,cg,b0,cf,bZ,cm,cd,ce,cq,cw,hI⟩
   obtain rfl:=cj LN
   obtain rfl:=cr Me
   refine bR (by omega) ?_
   exact ⟨aA,az,aB,ax,aD,aC,aw,aJ,aN,aR,aq,au,aH,aU,aX,aW,aY,aV,aZ,a6,bd,be,ba,bf,bh,ct,ch,cu,ca,bY,ci,cn,cj,cv,cr,fun _=>rfl,bX,cg,b0,cf,bZ,cm,cd,ce,cq,cw,hI⟩
  ·intro D aS  x6 fB fq fC fA fw fl fy fm gU iv iy iw ix ip iu hK eZ eY fa eX fU gb f0 fV fW gV dd de cO dq dr dn di dj dk dp dl dt cS cI cU cQ cP cR cT w_
   rintro ⟨aA,az,aB,ax,aD,aC,aw,aJ,aN,aR,aq,au,aH,aU,aX,aW,aY,aV,aZ,a6,bd,be,ba,bf,bh,ct,ch,cu,ca,bY,ci,cn,cj,cv,cr,co,bX,cg,b0,cf,bZ,cm,cd,ce,cq,cw,hI⟩
   exact ⟨aA,az,aB,ax,aD,aC,aw,aJ,aN,aR,aq,au,aH,aU,aX,aW,aY,aV,aZ,a6,bd,be,ba,bf,bh,ct,ch,cu,ca,bY,ci,cn,cj,cv,cr,co,fun _=>rfl,cg,b0,cf,bZ,cm,cd,ce,cq,cw,hI⟩
  ·intro D aS  x6 fB fq fC fA fw fl fy fm gU iv iy iw ix ip iu hK eZ eY fa eX fU gb f0 fV fW gV dd de cO dq dr dn di dj dk dp dl dt cS cI cU cQ cP cR cT w_
   rintro ⟨aA,az,aB,ax,aD,aC,aw,aJ,aN,aR,aq,au,aH,aU,aX,aW,aY,aV,aZ,a6,bd,be,ba,bf,bh,ct,ch,cu,ca,bY,ci,cn,cj,cv,cr,co,bX,cg,b0,cf,bZ,cm,cd,ce,cq,cw,hI⟩
   exact ⟨aA,az,aB,ax,aD,aC,aw,aJ,aN,aR,aq,au,aH,aU,aX,aW,aY,aV,aZ,a6,bd,be,ba,bf,bh,ct,ch,cu,ca,bY,ci,cn,cj,cv,cr,co,bX,fun _=>rfl,b0,cf,bZ,cm,cd,ce,cq,cw,hI⟩
  ·intro D aS Mh x6 fB fq fC fA fw fl fy fm gU iv iy iw ix ip iu hK eZ eY fa eX fU gb f0 fV fW gV dd de cO dq dr dn di dj dk dp dl dt cS cI cU cQ cP cR cT w_
   rintro ⟨aA,az,aB,ax,aD,aC,aw,aJ,aN,aR,aq,au,aH,aU,aX,aW,aY,aV,aZ,a6,bd,be,ba,bf,bh,ct,ch,cu,ca,bY,ci,cn,cj,cv,cr,co,bX,cg,b0,cf,bZ,cm,cd,ce,cq,cw,hI⟩
   obtain rfl:=cg Mh
   refine cG ?_
   exact ⟨aA,az,aB,ax,aD,aC,aw,aJ,aN,aR,aq,au,aH,aU,aX,aW,aY,aV,aZ,a6,bd,be,ba,bf,bh,ct,ch,cu,ca,bY,ci,cn,cj,cv,cr,co,bX,cg,fun _=>rfl,cf,bZ,cm,cd,ce,cq,cw,hI⟩
  ·intro D aS Mb x6 fB fq fC fA fw fl fy fm gU iv iy iw ix ip iu hK eZ eY fa eX fU gb f0 fV fW gV dd de cO dq dr dn di dj dk dp dl dt cS cI cU cQ cP cR cT w_
   rintro ⟨aA,az,aB,ax,aD,aC,aw,aJ,aN,aR,aq,au,aH,aU,aX,aW,aY,aV,aZ,a6,bd,be,ba,bf,bh,ct,ch,cu,ca,bY,ci,cn,cj,cv,cr,co,bX,cg,b0,cf,bZ,cm,cd,ce,cq,cw,hI⟩
   obtain rfl:=b0 Mb
   refine bj fk ?_
   exact ⟨aA,az,aB,ax,aD,aC,aw,aJ,aN,aR,aq,au,aH,aU,aX,aW,aY,aV,aZ,a6,bd,be,ba,bf,bh,ct,ch,cu,ca,bY,ci,cn,cj,cv,cr,co,bX,cg,b0,fun _=>rfl,bZ,cm,cd,ce,cq,cw,hI⟩
  ·intro D aS Mm x6 fB fq fC fA fw fl fy fm gU iv iy iw ix ip iu hK eZ eY fa eX fU gb f0 fV fW gV dd de cO dq dr dn di dj dk dp dl dt cS cI cU cQ cP cR cT w_
   rintro ⟨aA,az,aB,ax,aD,aC,aw,aJ,aN,aR,aq,au,aH,aU,aX,aW,aY,aV,aZ,a6,bd,be,ba,bf,bh,ct,ch,cu,ca,bY,ci,cn,cj,cv,cr,co,bX,cg,b0,cf,bZ,cm,cd,ce,cq,cw,hI⟩
   obtain rfl:=cf Mm
   refine bB hI 0 gZ rfl rfl ?_
   exact ⟨aA,az,aB,ax,aD,aC,aw,aJ,aN,aR,aq,au,aH,aU,aX,aW,aY,aV,aZ,a6,bd,be,ba,bf,bh,ct,ch,cu,ca,bY,ci,cn,cj,cv,cr,co,bX,cg,b0,cf,fun _=>rfl,cm,cd,ce,cq,cw,hI⟩
  ·intro D aS L0 x6 fB fq fC fA fw fl fy fm gU iv iy iw ix ip iu hK eZ eY fa eX fU gb f0 fV fW gV dd de cO dq dr dn di dj dk dp dl dt cS cI cU cQ cP cR cT w_
   rintro ⟨aA,az,aB,ax,aD,aC,aw,aJ,aN,aR,aq,au,aH,aU,aX,aW,aY,aV,aZ,a6,bd,be,ba,bf,bh,ct,ch,cu,ca,bY,ci,cn,cj,cv,cr,co,bX,cg,b0,cf,bZ,cm,cd,ce,cq,cw,hI⟩
   obtain rfl:=bZ L0
   refine iE dX ?_
   exact ⟨aA,az,aB,ax,aD,aC,aw,aJ,aN,aR,aq,au,aH,aU,aX,aW,aY,aV,aZ,a6,bd,be,ba,bf,bh,ct,ch,cu,ca,bY,ci,cn,cj,cv,cr,co,bX,cg,b0,cf,bZ,fun _=>rfl,cd,ce,cq,cw,hI⟩
  ·intro D aS Mg L8 x6 fB fq fC fA fw fl fy fm gU iv iy iw ix ip iu hK eZ eY fa eX fU gb f0 fV fW gV dd de cO dq dr dn di dj dk dp dl dt cS cI cU cQ cP cR cT w_
   rintro ⟨aA,az,aB,ax,aD,aC,aw,aJ,aN,aR,aq,au,aH,aU,aX,aW,aY,aV,aZ,a6,bd,be,ba,bf,bh,ct,ch,cu,ca,bY,ci,cn,cj,cv,cr,co,bX,cg,b0,cf,bZ,cm,cd,ce,cq,cw,hI⟩
   obtain rfl:=bX Mg
   obtain rfl:=cm L8
   refine HJ (a:=p) (b:=ys.length) rfl rfl h0 (by omega) ?_; rw [<- hdq]
   exact ⟨aA,az,aB,ax,aD,aC,aw,aJ,aN,aR,aq,au,aH,aU,aX,aW,aY,aV,aZ,a6,bd,be,ba,bf,bh,ct,ch,cu,ca,bY,ci,cn,cj,cv,cr,co,bX,cg,b0,cf,bZ,cm,fun _=>rfl,ce,cq,cw,hI⟩
  ·intro D aS LM x6 fB fq fC fA fw fl fy fm gU iv iy iw ix ip iu hK eZ eY fa eX fU gb f0 fV fW gV dd de cO dq dr dn di dj dk dp dl dt cS cI cU cQ cP cR cT w_
   rintro ⟨aA,az,aB,ax,aD,aC,aw,aJ,aN,aR,aq,au,aH,aU,aX,aW,aY,aV,aZ,a6,bd,be,ba,bf,bh,ct,ch,cu,ca,bY,ci,cn,cj,cv,cr,co,bX,cg,b0,cf,bZ,cm,cd,ce,cq,cw,hI⟩
   obtain rfl:=cd LM
   refine yw (by omega) ?_
   exact ⟨aA,az,aB,ax,aD,aC,aw,aJ,aN,aR,aq,au,aH,aU,aX,aW,aY,aV,aZ,a6,bd,be,ba,bf,bh,ct,ch,cu,ca,bY,ci,cn,cj,cv,cr,co,bX,cg,b0,cf,bZ,cm,cd,fun _=>rfl,cq,cw,hI⟩
  ·intro D aS LR LS x6 fB fq fC fA fw fl fy fm gU iv iy iw ix ip iu hK eZ eY fa eX fU gb f0 fV fW gV dd de cO dq dr dn di dj dk dp dl dt cS cI cU cQ cP cR cT w_
   rintro ⟨aA,az,aB,ax,aD,aC,aw,aJ,aN,aR,aq,au,aH,aU,aX,aW,aY,aV,aZ,a6,bd,be,ba,bf,bh,ct,ch,cu,ca,bY,ci,cn,cj,cv,cr,co,bX,cg,b0,cf,bZ,cm,cd,ce,cq,cw,hI⟩
   obtain rfl:=co LR
   obtain rfl:=ce LS
   refine bR (by omega) ?_
   exact ⟨aA,az,aB,ax,aD,aC,aw,aJ,aN,aR,aq,au,aH,aU,aX,aW,aY,aV,aZ,a6,bd,be,ba,bf,bh,ct,ch,cu,ca,bY,ci,cn,cj,cv,cr,co,bX,cg,b0,cf,bZ,cm,cd,ce,fun _=>rfl,cw,hI⟩
  ·intro D aS L9 Mn Ni Nq Nu Nw Nx NC NA Ny Nt LG Mv My MC M8 Mt Mp Nm MF Nl Ne Nr MJ MQ Mx MD MW MU M6 ME Nk Nf MP Mz MN Na Mo MS Nj Mr M0 Np Ms MG MT x6 fB fq fC fA fw fl fy fm gU iv iy iw ix ip iu hK eZ eY fa eX fU gb f0 fV fW gV dd de cO dq dr dn di dj dk dp dl dt cS cI cU cQ cP cR cT w_
   rintro ⟨aA,az,aB,ax,aD,aC,aw,aJ,aN,aR,aq,au,aH,aU,aX,aW,aY,aV,aZ,a6,bd,be,ba,bf,bh,ct,ch,cu,ca,bY,ci,cn,cj,cv,cr,co,bX,cg,b0,cf,bZ,cm,cd,ce,cq,cw,hI⟩
   obtain rfl:=cq L9
   exact ⟨aA,az,aB,ax,aD,aC,aw,aJ,aN,aR,aq,au,aH,aU,aX,aW,aY,aV,aZ,a6,bd,be,ba,bf,bh,ct,ch,cu,ca,bY,ci,cn,cj,cv,cr,co,bX,cg,b0,cf,bZ,cm,cd,ce,cq,fun _=>rfl,hI⟩
  intro D ML MM MA Nh Mq Nd Mw MI M5 M7 Ng MR MH M9 MO M3 MV Nn Mu MB Nc Gx F2 Ht FB GB F3 C9 Ce CE BP Cp CM jV gw fg jA g7 gc fj ft fL fX fM fP fY x6 fB fq fC fA fw fl fy fm gU iv iy iw ix ip iu hK eZ eY fa eX fU gb f0 fV fW gV dd de cO dq dr dn di dj dk dp dl dt cS cI cU cQ cP cR cT w_
  rintro ⟨aA,az,aB,ax,aD,aC,aw,aJ,aN,aR,aq,au,aH,aU,aX,aW,aY,aV,aZ,a6,bd,be,ba,bf,bh,ct,ch,cu,ca,bY,ci,cn,cj,cv,cr,co,bX,cg,b0,cf,bZ,cm,cd,ce,cq,cw,hI⟩
  obtain rfl:=cw ML
  obtain rfl:=cq MM
  obtain rfl:=ce MA
  obtain rfl:=cd Nh
  obtain rfl:=cm Mq
  obtain rfl:=bZ Nd
  obtain rfl:=cf Mw
  obtain rfl:=b0 MI
  obtain rfl:=cg M5
  obtain rfl:=bX M7
  obtain rfl:=co Ng
  obtain rfl:=cr MR
  obtain rfl:=cv MH
  obtain rfl:=cj M9
  obtain rfl:=cn MO
  obtain rfl:=ci M3
  obtain rfl:=bY MV
  obtain rfl:=ca Nn
  obtain rfl:=cu Mu
  obtain rfl:=ch MB
  obtain rfl:=ct Nc
  obtain rfl:=bh Gx
  obtain rfl:=bf F2
  obtain rfl:=ba Ht
  obtain rfl:=be FB
  obtain rfl:=bd GB
  obtain rfl:=a6 F3
  obtain rfl:=aZ C9
  obtain rfl:=aV Ce
  obtain rfl:=aY CE
  obtain rfl:=aW BP
  obtain rfl:=aX Cp
  obtain rfl:=aU CM
  obtain rfl:=aH jV
  obtain rfl:=au gw
  obtain rfl:=aq fg
  obtain rfl:=aR jA
  obtain rfl:=aN g7
  obtain rfl:=aJ gc
  obtain rfl:=aw fj
  obtain rfl:=aC ft
  obtain rfl:=aD fL
  obtain rfl:=ax fX
  obtain rfl:=aB fM
  obtain rfl:=az fP
  obtain rfl:=aA fY
  clear aA az aB ax aD aC aw aJ aN aR aq au aH aU aX aW aY aV aZ a6 bd be ba bf bh ct ch cu ca bY ci cn cj cv cr co bX cg b0 cf bZ cm cd ce cq cw
  obtain ⟨x,hx⟩:∃ x:Nat,((((((y1:Nat):Int) * 131)+(((y2:Nat):Int) * 1117))+((p:Int) * 29))+(((q:Nat):Int) * 53))=(x:Int):=⟨(((((((y1:Nat):Int) * 131)+(((y2:Nat):Int) * 1117))+((p:Int) * 29))+(((q:Nat):Int) * 53))).toNat,by omega⟩
  have hx2:x<=10000000000000000:=by omega
  rw [hx]
  refine HJ (a:=x) (b:=64) rfl rfl (by omega) (by omega) ?_
  refine LE (a:=x) (b:=x / 64) rfl rfl (by omega) (by omega) ?_
  refine Ha hn ?_
  exact ⟨_,_,_,rfl,hI,Ext.refl _ _ _,rfl,rfl,_,Nat.mod_lt _ hn,rfl⟩
theorem ln {ys:List Nat} {ns:List Int} {S:ay} {sl v:Value} {br p:Nat} (h:RdSl S 1 kR sl ys) (hv:RdSl S 1 rT v ns) (h0:0<ns.length) (hp:p<=1000000000000) :
  Tri Tryz.prog zV [rdP br,v] [rdI br sl p] S fun r I' S'=>S'=S/\I'=[rdI br sl (p+1)]/\∃ n∈ns,r=.int .i64 n:=by
 intro w hI
 refine sN ?_
 unfold mV
 refine bm hv gB ?_
 refine Run.call (A:=[]) bU bT hI (dI h hp h0) fun v' I' S' w'=>?_
 rintro ⟨rfl,rfl,k,hk,rfl⟩ _ hI
 obtain ⟨b,o,cap,c,E,fz,rfl,hS,hR⟩:=hv.at_ hk
 refine bq gB hk ?_
 refine eE bg ((hI.cellS hS).trans (bx hR 0 _ rfl)) ?_
 exact ⟨_,_,_,rfl,hI,Ext.refl _ _ _,rfl,rfl,_,List.getElem_mem hk,rfl⟩
theorem r5 {ys:List Nat} {ns:List ByteArray} {S:ay} {sl v:Value} {br p:Nat} (h:RdSl S 1 kR sl ys) (hv:RdSl S 1 pk v ns) (h0:0<ns.length) (hp:p<=1000000000000) :
  Tri Tryz.prog Cj [rdP br,v] [rdI br sl p] S fun r I' S'=>S'=S/\I'=[rdI br sl (p+1)]/\∃ n∈ns,r=.string n:=by
 intro w hI
 refine un ?_
 unfold pJ
 refine bm hv cH ?_
 refine Run.call (A:=[]) bU bT hI (dI h hp h0) fun v' I' S' w'=>?_
 rintro ⟨rfl,rfl,k,hk,rfl⟩ _ hI
 obtain ⟨b,o,cap,c,E,fz,rfl,hS,hR⟩:=hv.at_ hk
 refine bq cH hk ?_
 refine eE bz ((hI.cellS hS).trans (bx hR 0 _ rfl)) ?_
 exact ⟨_,_,_,rfl,hI,Ext.refl _ _ _,rfl,rfl,_,List.getElem_mem hk,rfl⟩
theorem HB {ys:List Nat} {S:ay} {v:Value} (h:RdSl S 1 kR v ys) :
  Tri Tryz.prog DH [v] [] S fun r I' S'=>S'=S/\∃ br sl ys',r=rdP br/\I'=[rdI br sl 0]/\RdSl S 1 kR sl ys':=by
 intro w hI
 refine wB ?_
 unfold si
 refine ⟨fun t w'=>(∃ ys',RdSl S 1 kR t ys')/\Inv w [] [] S w',?_,?_⟩
 ·refine bm h dX ?_
  refine ff ?_
  refine bF (fun hgt=>?_) (fun _=>⟨⟨_,h⟩,hI⟩)
  obtain ⟨a,cap,rfl,hl,hc,hh⟩:=id h
  refine Lz (h:=2000) dX (by omega) ?_
  exact ⟨⟨_,RdSl.to h (by omega)⟩,hI⟩
 intro t0 _ _ _ _ _ w'
 rintro ⟨⟨ys',hr⟩,hI⟩
 obtain ⟨a,cap,rfl,_⟩:=id hr
 refine Run.of (v:=.agg #[.slice a ys'.length cap,.int .i64 0]) (w':=w') ?_ ?_
 ·unfold bP
  rw [Sem.run_bind,run_build w' DF _ #[.slice a ys'.length cap,.int .i64 0] (by kernel_rfl),Result.andThen_ok]
  rfl
 refine bN hI fun br w' hI=>?_
 exact ⟨_,_,_,rfl,hI,Ext.refl _ _ _,rfl,br,_,ys',rfl,rfl,hr⟩
end
end Go.Proofs.YtnmnddpdikghhaaGreat
