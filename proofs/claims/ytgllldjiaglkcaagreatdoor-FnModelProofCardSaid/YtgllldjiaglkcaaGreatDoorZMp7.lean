/- Texts read: spec.l1Struct, l1Chain, l2Read, l2Prime, l2Terms, l2Items. (printed by gen_read.py) -/
import Derived.Test.YtgllldjiaglkcaaGreatDoorZMp6
import Derived.Test.YtgllldjiaglkcaaGreatDoorZMp4
namespace Go.Proofs.YtgllldjiaglkcaaGreatDoor
section
open Go Go.RowKit
theorem Zn {s:Bs} {i e:Nat} {t:T} (hn:W8 s i=some (t,e)):i<e/\e<=s.length:=by
 unfold W8 at hn
 obtain ⟨fr,hfr⟩:∃ fr,fr=if sgn s i 45=true then i+1 else i:=⟨_,rfl⟩
 simp only [<- hfr] at hn
 have hle:=Nq s 4 fr
 have hfi:i<=fr/\fr<=i+1:=by rw [hfr]; split <;> omega
 split at hn
 ·cases hn
 rename_i hc
 simp only [not_or] at hc
 simp only [bg,cT] at hn
 obtain ⟨_,rfl⟩:=hn
 have h2:fr<vf s 4 fr:=by
  rcases MC fr (vf s 4 fr) with h|h
  ·exact h
  ·refine absurd ?_ hc.1
   rw [cut,jT]
   rw [dX]
   omega
 have:=Hw (yc s 4 fr (vf s 4 fr - 1) (by omega) (by omega))
 omega
theorem iW:∀ f:Nat,(∀ s i d l t n,kZ f s i d l=some (t,n)->i<n/\n<=s.length)/\(∀ s i d l t0 t n,Qd f s i d l t0=some (t,n)->i<=s.length->i<=n/\n<=s.length)/\
  (∀ s i d t n,xH f s i d=some (t,n)->i<n/\n<=s.length)/\(∀ s i d e o acc ts n,jp f s i d e o acc=some (ts,n)->i<n/\n<s.length)
 | 0=>⟨fun s i d l t n h=>by simp [kZ] at h,fun s i d l t0 t n h=>by simp [Qd] at h,fun s i d t n h=>by simp [xH] at h,fun s i d e o acc ts n h=>by simp [jp] at h⟩
 | f+1=>by
  obtain ⟨h1,h2,h3,h4⟩:=iW f
  refine ⟨fun s i d l t n h=>?_,fun s i d l t0 t n h hi=>?_,fun s i d t n h=>?_,fun s i d e o acc ts n h=>?_⟩
  ·cases l with
   | zero=>rw [kZ] at h; exact h3 _ _ _ _ _ h
   | succ l=>
    rw [kZ] at h
    split at h
    ·cases h
    ·rename_i t' n' hr
     have a:=h1 _ _ _ _ _ _ hr
     have b:=h2 _ _ _ _ _ _ _ h a.2
     omega
  ·rw [Qd] at h
   split at h
   ·simp only [bg,cT] at h
    omega
   ·rename_i name after ho
    have a:=Wx ho
    split at h
    ·split at h
     ·cases h
     ·rename_i r e hr
      have b:=h1 _ _ _ _ _ _ hr
      split at h
      ·simp only [bg,cT] at h
       omega
      ·have c:=h2 _ _ _ _ _ _ _ h b.2
       omega
    ·simp only [bg,cT] at h
     omega
  ·rw [xH] at h
   split at h
   ·cases h
   rename_i h0
   have h0:i<s.length:=by omega
   split at h
   ·split at h
    ·cases h
    ·rename_i t' n' hr
     have a:=h1 _ _ _ _ _ _ hr
     split at h
     ·rename_i hs
      have:=jF hs
      simp only [bg,cT] at h
      omega
     ·cases h
   ·split at h
    ·split at h
     ·cases h
     ·rename_i ts n' hr
      have a:=h4 _ _ _ _ _ _ _ _ hr
      split at h
      ·simp only [bg,cT] at h
       omega
      ·split at h
       ·cases h
       ·rename_i t' e hr2
        have b:=h1 _ _ _ _ _ _ hr2
        split at h
        ·rename_i hs
         have:=jF hs
         simp only [bg,cT] at h
         omega
        ·cases h
    ·split at h
     ·simp only [bg,cT] at h
      omega
     ·split at h
      ·exact Zn h
      ·split at h
       ·cases h
       ·rename_i name n' hn
        have a:=yC h0 hn
        split at h
        ·simp only [bg,cT] at h
         omega
        ·split at h
         ·cases h
         ·rename_i ts e hr
          have b:=h4 _ _ _ _ _ _ _ _ hr
          simp only [bg,cT] at h
          omega
  ·rw [jp] at h
   split at h
   ·cases h
   ·rename_i t' n' hr
    have a:=h1 _ _ _ _ _ _ hr
    split at h
    ·rename_i hs
     have hlt:n'<s.length:=hs.elim jF jF
     simp only [bg,cT] at h
     omega
    ·split at h
     ·have b:=h4 _ _ _ _ _ _ _ _ h
      omega
     ·cases h
abbrev abb (t:T):Value->List Item->ae->Prop:=fun v I' S'=>I'=[]/\∃ cs,v=.agg cs.toArray/\RdT S' cs t
abbrev XX (t:T) (n:Nat):Value->List Item->ae->Prop:=fun v I' S'=>I'=[]/\∃ cs,v=.tuple #[.agg cs.toArray,.int .i64 (n:Int)]/\RdT S' cs t
abbrev Zz (ts:List T) (n:Nat):Value->List Item->ae->Prop:=fun v I' S'=>I'=[]/\∃ u,v=.tuple #[u,.int .i64 (n:Int)]/\RdSl S' 4 (RdT S') u ts
theorem lQ (S:ae):RdSl S 4 (RdT S) (.slice none 0 0) []:=⟨none,0,rfl,aW _,be _,.inl rfl⟩
theorem Rl {S:ae} {b:Nat} {E:TypeId} {a c:T} {k1 n1 k2 n2:Int} {s1 s2:ByteArray} {v1 v2:Value} (hS:S b=some (.cells #[.int .i64 k1,.int .i64 n1,.string s1,v1,.int .i64 k2,.int .i64 n2,.string s2,v2] E))
  (h1:RdT S [.int .i64 k1,.int .i64 n1,.string s1,v1] a) (h2:RdT S [.int .i64 k2,.int .i64 n2,.string s2,v2] c):RdSl S 4 (RdT S) (.slice (some ⟨b,0,none⟩) 2 2) [a,c]:=by
 refine ⟨_,2,rfl,aW _,by simp [maxLen],.inr ⟨b,0,_,E,(0,0),rfl,hS,fun i hi=>?_⟩⟩
 match i,hi with
 | 0,_=>exact h1
 | 1,_=>exact h2
section
variable {w w0:World} {X:List Nat} {L:List Item} {S:ae} {K:Value->World->Prop}
attribute [local irreducible] Run CondV az aO
theorem fI {P:Program} {T:TypeId} {cx cy:Bool} {x y:Int} {a b:Nat} (hx:x=a) (hy:y=b) (hr:a+b<=1000000000000000) (hk:K (.int .i64 ((a+b:Nat):Int)) w):Run P (cK .add T cx cy (.int .i64 x) (.int .i64 y)) w K:=by
 subst hx hy
 refine bp (by omega) ?_
 rw [<- Int.natCast_add]
 exact hk
theorem Hc {P:Program} {T:TypeId} {cx cy:Bool} {x y:Int} {a b:Nat} (hx:x=a) (hy:y=b) (hle:b<=a) (hr:a<=1000000000000000) (hk:K (.int .i64 ((a - b:Nat):Int)) w):Run P (cK .sub T cx cy (.int .i64 x) (.int .i64 y)) w K:=by
 subst hx hy
 refine mx (by omega) ?_
 rw [<- Int.ofNat_sub hle]
 exact hk
theorem vM {s:ByteArray} {v:Value} (hv:∃ p n m,v=.slice p n m) (hk:K (.agg #[.int .i64 3,.int .i64 0,.string s,v]) w):Run Tryz.prog (cB ab [(0,.int .i64 3),(2,.string s),(3,v)]) w K:=by
 obtain ⟨p,n,m,rfl⟩:=hv
 refine Run.of (v:=.agg #[.int .i64 3,.int .i64 0,.string s,.slice p n m]) (w':=w) ?_ hk
 unfold cB
 rw [Sem.run_bind,run_build w ab _ #[.int .i64 3,.int .i64 0,.string s,.slice p n m] (by kernel_rfl),Result.andThen_ok]
 rfl
theorem zN (s:ByteArray) {ks:List T} {u:Value} (h:RdSl S 4 (RdT S) u ks) (hk:ks.length<=1000000):Tri Tryz.prog zd [.string s,u] [] S fun v I' S'=>S'=S/\∃ kv css,v=.agg #[.int .i64 3,.int .i64 0,.string s,kv]/\I'=[aJ kv ab 4 css]/\Rows 4 (RdT S) css ks:=by
 intro w hI
 refine vS.2 ?_
 dsimp only[vS,aY]
 refine aT hI aZ fun b4 w' hI=>?_
 refine fA hI bo fun v0 w' hI=>?_
 have hI:Inv w [] [.blk b4 (.cells #[.int .i64 0,.int .i64 0,.string ⟨#[]⟩,.slice none 0 0] ab),aJ v0 ab 4 []] S w':=hI
 refine mD hI 1 (css:=[]) bo (by omega) rfl h (fun _ _=>RdT.length) (fun _ _=>RdT.one) (by simp; omega) (by omega) fun v' w' css2 hR hI=>?_
 have hI:Inv w [] [.blk b4 (.cells #[.int .i64 0,.int .i64 0,.string ⟨#[]⟩,.slice none 0 0] ab),aJ v' ab 4 css2] S w':=hI
 obtain ⟨a,n,c,rfl⟩:=hI.rowSlice 1 rfl
 refine vM ⟨_,_,_,rfl⟩ ?_
 refine aC hI 0 rfl ad rfl rfl (by simp [Value.oneCell']) fun w' hI=>?_
 refine bJ hI 0 ad rfl rfl ?_
 exact ⟨_,_,_,rfl,hI.sub (iz _ _),Ext.refl _ _ _,rfl,_,css2,rfl,rfl,hR⟩
theorem eP (s:ByteArray) (hs:s.size<=maxLen) {ks:List T} {u:Value} (h:RdSl S 4 (RdT S) u ks) (hk:ks.length<=1000000):Tri Tryz.prog zd [.string s,u] [] S (abb (.mk 3 0 s ks)):=by
 intro w hI
 refine (zN s h hk w hI).mono ?_
 rintro e w' ⟨v,I',S',rfl,hI,hE,rfl,kv,css,rfl,rfl,hR⟩
 obtain ⟨S1,hE1,hrd,hI⟩:=Inv.lendExt (A:=[]) hI
 have hrs:=RowRd.rows (hR.monoR fun _ _ h=>RdT.mono hE1.1 h) hrd
 exact ⟨_,[],S1,rfl,hI,hE.trans hE1,rfl,[.int .i64 3,.int .i64 0,.string s,kv],rfl,RdT.iff.2 ⟨kv,rfl,by simp [inI,T.kind],by simp [inI,T.n],hs,hrs⟩⟩
theorem Sc {ts:List T} {j:Nat} (h:j<ts.length) (t:T):kr (ts.drop j) t=NK ts[j] (kr (ts.drop (j+1)) t):=by
 rw [cU h,kr]
theorem wn {ts:List T} {t:T} {u:Value} {cs:List Value} (h:RdSl S 4 (RdT S) u ts) (ht:RdT S cs t) (hl:ts.length<=1000000):Tri Tryz.prog Oy [u,.agg cs.toArray] [] S (abb (kr ts t)):=by
 intro w hI
 obtain ⟨kv,rfl,g1,g2,g3,g4⟩:=RdT.iff.1 ht
 obtain ⟨ka,kn,kc,hkv⟩:∃ a n m,kv=.slice a n m:=by
  obtain ⟨a,m,e,_⟩:=g4
  exact ⟨_,_,_,e⟩
 refine zJ.2 ?_
 dsimp only[zJ,aY]
 refine bq hI fun b3 w' hI=>?_
 refine aT hI aZ fun b4 w' hI=>?_
 refine av hI 0 ad rfl rfl ?_
 refine aT hI aZ fun b5 w' hI=>?_
 refine aC hI 2 rfl ad rfl rfl (by simp [Value.oneCell',Value.cells,hkv]) fun w' hI=>?_
 refine aF h ag ?_
 refine mx (by omega) ?_
 obtain ⟨B3,hB3⟩:∃ B3,B3=Item.blk b3 (.cells #[.int .i64 t.kind,.int .i64 t.n,.string t.name,kv] ab):=⟨_,rfl⟩
 have hI:Inv w [] [B3,.blk b4 (.cells #[.int .i64 0,.int .i64 0,.string ⟨#[]⟩,.slice none 0 0] ab),.blk b5 (.cells #[.int .i64 t.kind,.int .i64 t.n,.string t.name,kv] ab)] S w':=by rw [hB3]; exact hI
 refine ⟨fun i w'=>∃ (j:Nat) (S1:ae) (ds:List Value),j<=ts.length/\i=.int .i64 ((j:Int) - 1)/\Ext w.heap.size [] S S1/\RdT S1 ds (kr (ts.drop j) t)/\Inv w [] [B3,.blk b4 (.cells #[.int .i64 0,.int .i64 0,.string ⟨#[]⟩,.slice none 0 0] ab),.blk b5 (.cells ds.toArray ab)] S1 w',
  fun i _=>(intOf i+1).toNat,⟨ts.length,S,_,aW _,rfl,Ext.refl _ _ _,by rw [dO]; exact ht,hI⟩,?_⟩
 intro t6 _ _ t21 t20 t19 t18 t17 t16 t15 _ _ w'
 rintro ⟨j,S1,ds,hj,rfl,hE,hds,hI⟩
 by_cases hj0:j=0
 ·subst hj0
  refine Ct (by omega) ?_
  refine aw (fun hb=>by cases hb) (fun _=>?_)
  obtain ⟨kv',rfl,_,_,_,a,m,rfl,_⟩:=RdT.iff.1 hds
  refine av hI 2 ad rfl rfl ?_
  refine aC hI 1 rfl ad rfl rfl (by simp [Value.oneCell']) fun w' hI=>?_
  refine bJ hI 1 ad rfl rfl ?_
  exact ⟨_,_,_,rfl,hI.nil,hE,rfl,_,rfl,hds⟩
 ·refine qJ (by omega) ?_
  refine aw (fun _=>?_) (fun hb=>by cases hb)
  obtain ⟨m,rfl⟩:∃ m,j=m+1:=⟨j - 1,by omega⟩
  have hm:m<ts.length:=by omega
  have ej:((m+1:Nat):Int) - 1=(m:Int):=by omega
  rw [ej]
  obtain ⟨b,o,cap,c,E,fz,rfl,hS,hR⟩:=(h.monoT hE.1).at_ hm
  obtain ⟨ka',hca,_,_,_,aa,am,hka',_⟩:=RdT.iff.1 hR
  subst hka'
  obtain ⟨kd,rfl,_,_,_,da,dm,rfl,_⟩:=RdT.iff.1 hds
  obtain ⟨o1,ho1⟩:∃ o1,o1=kr (ts.drop (m+1)) t:=⟨_,rfl⟩
  rw [<- ho1] at hds hI
  obtain ⟨a1,ha1⟩:∃ a1,a1=ts[m]:=⟨_,rfl⟩
  rw [<- ha1] at hR hca
  skip
  refine ⟨fun D sj oU lp rT lN pr wJ w_=>Fx D 0 [wJ=.slice (some ⟨b,o,none⟩) ts.length cap,pr=.int .i64 (m:Int),lN=.pointer (some ⟨b,o+m * 4,none⟩),rT=.agg #[.int .i64 a1.kind,.int .i64 a1.n,.string a1.name,.slice aa a1.kids.length am],lp=.agg #[.int .i64 o1.kind,.int .i64 o1.n,.string o1.name,.slice da o1.kids.length dm],True,True,True]/\∃ S2 c6,Ext w.heap.size [] S1 S2/\(D 5=true->RdSl S2 4 (RdT S2) oU [a1,o1])/\(D 6=true->sj=.agg c6.toArray/\RdT S2 c6 (NK a1 o1))/\(D 7=true->D 6=true)/\(D 6=true->D 5=true)/\(D 5=true->D 4=true)/\Inv w [] [B3,.blk b4 (.cells #[.int .i64 0,.int .i64 0,.string ⟨#[]⟩,.slice none 0 0] ab),.blk b5 (.cells (match D 7 with|true=>c6.toArray|false=>#[.int .i64 o1.kind,.int .i64 o1.n,.string o1.name,.slice da o1.kids.length dm]) ab)] S2 w_,⟨Fx.nil _ _,⟨S1,[],Ext.refl _ _ _,aQ,aQ,aQ,aQ,aQ,hI.draw⟩⟩,⟨?_,?_,?_,?_,?_,?_,?_,?_,trivial⟩,?_⟩
  all_goals (intro D bF; intros; rename_i sj oU lp rT lN pr wJ w_ hA_; have hF_:=hA_.1; obtain ⟨⟨cj,ci,bR,ce,bP,bY,bZ,cH,_⟩,⟨S2,c6,hE2,e5,e6,k7,k6,k5,hI⟩⟩:=hA_)
  ·exact ⟨hF_.set 0 rfl,⟨S2,c6,hE2,e5,e6,k7,k6,k5,hI⟩⟩
  ·exact ⟨hF_.set 1 rfl,⟨S2,c6,hE2,e5,e6,k7,k6,k5,hI⟩⟩
  ·obtain rfl:=cj ‹_›
   obtain rfl:=ci ‹_›
   refine aE ag hm ?_
   exact ⟨hF_.set 2 rfl,⟨S2,c6,hE2,e5,e6,k7,k6,k5,hI⟩⟩
  ·obtain rfl:=bR ‹_›
   refine bL (cs:=[.int .i64 a1.kind,.int .i64 a1.n,.string a1.name,.slice aa a1.kids.length am]) ad rfl (fun j v hj=>by rw [hI.cellS (hE2.1 _ _ hS)]; exact aH hca j v hj) ?_
   exact ⟨hF_.set 3 rfl,⟨S2,c6,hE2,e5,e6,k7,k6,k5,hI⟩⟩
  ·have f5:D 5=false:=bB.2 fun h=>by rw [k5 h] at bF; cases bF
   have f6:D 6=false:=bB.2 fun h=>by rw [k6 h] at f5; cases f5
   have f7:D 7=false:=bB.2 fun h=>by rw [k7 h] at f6; cases f6
   have hI0:=hI
   rw [f7] at hI
   refine av hI 2 ad rfl rfl ?_
   have hI:=hI0
   have k5:=fun (_:aD D 4 5=true)=>(rfl:aD D 4 4=true)
   exact ⟨hF_.set 4 rfl,⟨S2,c6,hE2,e5,e6,k7,k6,k5,hI⟩⟩
  ·obtain rfl:=ce ‹_›
   obtain rfl:=bP ‹_›
   have f6:D 6=false:=bB.2 fun h=>by rw [k6 h] at bF; cases bF
   have f7:D 7=false:=bB.2 fun h=>by rw [k7 h] at f6; cases f6
   rw [f7] at hI
   refine wX (v:=fun b=>.slice (some ⟨b,0,none⟩) 2 2) (o:=.cells #[.int .i64 a1.kind,.int .i64 a1.n,.string a1.name,.slice aa a1.kids.length am,.int .i64 o1.kind,.int .i64 o1.n,.string o1.name,.slice da o1.kids.length dm] ab) hI (by kernel_rfl) fun b20 w_ hI=>?_
   obtain ⟨S2,hI,hE3,hS3⟩:=Inv.pub1 (A:=[_,_,_]) hI
   have hE2:=hE2.trans hE3
   have hR':RdT S2 [.int .i64 a1.kind,.int .i64 a1.n,.string a1.name,.slice aa a1.kids.length am] a1:=by
    have:=RdT.mono hE2.1 hR
    rwa [hca] at this
   have e5:=fun (_:aD D 5 5=true)=>Rl hS3 hR' (RdT.mono hE2.1 hds)
   have e6:=fun (h:D 6=true)=>(absurd h (by rw [f6]; decide):sj=.agg c6.toArray/\RdT S2 c6 (NK a1 o1))
   have k6:=fun (_:aD D 5 6=true)=>(rfl:aD D 5 5=true)
   have k5:=fun (_:aD D 5 5=true)=>‹D 4=true›
   have hI:Inv w [] [B3,.blk b4 (.cells #[.int .i64 0,.int .i64 0,.string ⟨#[]⟩,.slice none 0 0] ab),.blk b5 (.cells (match D 7 with|true=>c6.toArray|false=>#[.int .i64 o1.kind,.int .i64 o1.n,.string o1.name,.slice da o1.kids.length dm]) ab)] S2 w_:=by
    rw [f7]
    exact hI
   exact ⟨hF_.set 5 (by first|assumption|trivial),⟨S2,c6,hE2,e5,e6,k7,k6,k5,hI⟩⟩
  ·have Ro:=bY ‹_›
   have f7:D 7=false:=bB.2 fun h=>by rw [k7 h] at bF; cases bF
   rw [f7] at hI
   refine Run.call0E dT dP hI (eP ⟨#[46]⟩ (by decide +kernel) (e5 ‹D 5=true›) (by simp)) fun v' I' S2 w_=>?_
   rintro ⟨rfl,c6,rfl,hc6⟩ hE3 hI
   have hE2:=hE2.trans hE3
   have e5:=fun (h:D 5=true)=>(e5 h).monoT hE3.1
   have e6:aD D 6 6=true->Value.agg c6.toArray=Value.agg c6.toArray/\RdT S2 c6 (NK a1 o1):=fun _=>⟨rfl,hc6⟩
   have k7:=fun (_:aD D 6 7=true)=>(rfl:aD D 6 6=true)
   have k6:=fun (_:aD D 6 6=true)=>‹D 5=true›
   have hI:Inv w [] [B3,.blk b4 (.cells #[.int .i64 0,.int .i64 0,.string ⟨#[]⟩,.slice none 0 0] ab),.blk b5 (.cells (match D 7 with|true=>c6.toArray|false=>#[.int .i64 o1.kind,.int .i64 o1.n,.string o1.name,.slice da o1.kids.length dm]) ab)] S2 w_:=by
    rw [f7]
    exact hI
   exact ⟨hF_.set 6 (by first|assumption|trivial),⟨S2,c6,hE2,e5,e6,k7,k6,k5,hI⟩⟩
  ·have NF:=bZ ‹_›
   obtain ⟨q6,hc6⟩:=e6 ‹D 6=true›
   subst q6
   rw [bF] at hI
   have hone:=hc6.one
   have hlen:=hc6.length
   refine aC hI 2 rfl ad (by simpa using hlen) rfl (by simpa using hone) fun w_ hI=>?_
   have k7:=fun (_:aD D 7 7=true)=>‹D 6=true›
   exact ⟨hF_.set 7 trivial,⟨S2,c6,hE2,e5,e6,k7,k6,k5,hI⟩⟩
  obtain ⟨rfl,rfl,rfl,rfl,rfl,Ro,NF,_,_⟩:=hF_.all
  have PC:D 6=true:=by assumption
  have AP:D 7=true:=by assumption
  clear hF_ cj ci bR ce bP bY bZ cH
  rw [AP] at hI
  obtain ⟨_,hc6⟩:=e6 PC
  refine mx (by omega) ?_
  refine ⟨⟨m,S2,c6,by omega,rfl,hE.trans hE2,?_,hI⟩,by simp [intOf]⟩
  rw [Sc hm,<- ha1,<- ho1]
  exact hc6
end
def uB (f:Nat):Prop:=∀ (s:Bs) (i d l:Nat) (t:T) (n:Nat) (S:ae),kZ f s i d l=some (t,n)->s.length<=100000->i<=s.length->d<=100->l<=3->
 Tri Tryz.prog Sa [.string (st s),.int .i64 (i:Int),.int .i64 (d:Int),.int .i64 (l:Int)] [] S (XX t n)
def MJ (f:Nat):Prop:=∀ (s:Bs) (i d:Nat) (t:T) (n:Nat) (S:ae),xH f s i d=some (t,n)->s.length<=100000->i<=s.length->d<=100->
 Tri Tryz.prog NZ [.string (st s),.int .i64 (i:Int),.int .i64 (d:Int)] [] S (XX t n)
def As (f:Nat):Prop:=∀ (s:Bs) (i d e o:Nat) (ts:List T) (n:Nat) (S:ae),jp f s i d e o []=some (ts,n)->s.length<=100000->i<=s.length->d<=100->
 Tri Tryz.prog OU [.string (st s),.int .i64 (i:Int),.int .i64 (d:Int),.int .u8 (e:Int),.int .u8 (o:Int)] [] S (Zz ts n)
theorem K4:∀ (f:Nat) (s:Bs) (i d e o:Nat) (acc ts:List T) (n:Nat),jp f s i d e o acc=some (ts,n)->ts.length+i<=acc.length+n
 | 0,s,i,d,e,o,acc,ts,n,h=>by simp [jp] at h
 | f+1,s,i,d,e,o,acc,ts,n,h=>by
  rw [jp] at h
  split at h
  ·cases h
  ·rename_i t' n' hr
   have a:=(iW f).1 _ _ _ _ _ _ hr
   split at h
   ·simp only [bg,cT] at h
    obtain ⟨rfl,rfl⟩:=h
    rw [bA]
    simp only [bw,bU]
    omega
   ·split at h
    ·have b:=K4 f _ _ _ _ _ _ _ _ h
     rw [bA] at b
     simp only [bw,bU] at b
     omega
    ·cases h
section
attribute [local irreducible] Run CondV az aO
theorem V5 {f:Nat} (ih:∀ g,g<f->uB g):As f:=by
 intro s i d e o ts n S h hs hi hd w hI
 refine zz.2 ?_
 dsimp only[zz,ry]
 refine fA hI bo fun v0 w' hI=>?_
 refine ⟨fun a b w'=>∃ (f' i':Nat) (acc:List T) (S1:ae) (css:List (List Value)),f'<=f/\a=.int .i64 (i':Int)/\i<=i'/\i'<=s.length/\acc.length+i<=i'/\jp f' s i' d e o acc=some (ts,n)/\Ext w.heap.size [] S S1/\Rows 4 (RdT S1) css acc/\Inv w [] [aJ b ab 4 css] S1 w',
  fun a _ _=>s.length+1 - (intOf a).toNat,⟨f,i,[],S,[],aW _,rfl,aW _,hi,by simp,h,Ext.refl _ _ _,Rows.nil _ _,hI⟩,?_⟩
 intro t1 _ _ _ _ _ _ _ _ _ _ _ _ _ _ _ _ _ _ _ _ t12 _ _ _ _ _ _ _ _ _ _ _ _ _ _ _ _ _ _ w'
 rintro ⟨f',i',acc,S1,css,hf',rfl,hi1,hi2,hacc,hT,hE,hR,hI⟩
 have hcl:=hR.hc
 cases f' with
 | zero=>simp [jp] at hT
 | succ g=>
 rw [jp] at hT
 split at hT
 ·cases hT
 rename_i t n' hr
 have hle:=(iW g).1 _ _ _ _ _ _ hr
 refine Run.call0E g7 gT hI (ih g (by omega) s i' d 3 t n' S1 hr hs hi2 hd (by omega)) fun v I' S2 w'=>?_
 rintro ⟨rfl,cs,rfl,hcs⟩ hE2 hI
 have hR2:=hR.monoR fun _ _ h=>RdT.mono hE2.1 h
 obtain ⟨kv,rfl,_,_,_,a,m,rfl,_⟩:=RdT.iff.1 hcs
 refine ar (v:=.agg _) rfl ?_
 refine ar (v:=.int .i64 (n':Int)) rfl ?_
 refine aT hI aZ fun b13 w' hI=>?_
 refine aC hI 1 rfl ad rfl rfl (by simp [Value.oneCell']) fun w' hI=>?_
 refine fN (by omega) ?_
 refine aw (fun hb=>by cases hb) (fun _=>?_)
 refine av hI 1 ad rfl rfl ?_
 refine d6 (css:=css) hI 0 _ bo (by omega) (by omega) rfl hcs.length hcs.one (by omega) (by omega) fun v' w' hI=>?_
 have hI:Inv w [] [aJ v' ab 4 (css++[[.int .i64 t.kind,.int .i64 t.n,.string t.name,.slice a t.kids.length m]])] S2 w':=hI.pick [true,false]
 have hR3:=hR2.snoc hcs hcs.length
 refine ⟨fun b w'=>b=.bool (sgn s n' e || sgn s n' o)/\Inv w [] [aJ v' ab 4 (css++[[.int .i64 t.kind,.int .i64 t.n,.string t.name,.slice a t.kids.length m]])] S2 w',?_,?_⟩
 ·refine Run.callPure dj dp hI (cX s n' e S2) fun w' hI=>?_
  cases he:sgn s n' e
  ·refine rpG ?_
   refine Run.callPure dj dp hI (cX s n' o S2) fun w' hI=>?_
   refine rpG ?_
   exact ⟨by simp,hI⟩
  ·refine rpG ?_
   exact ⟨by simp,hI⟩
 intro t39 _ _ _ _ _ _ _ _ _ w'
 rintro ⟨rfl,hI⟩
 refine aw (fun hb=>?_) (fun hb=>?_)
 ·rw [jR] at hb
  rw [ai hb] at hT
  simp only [bg,cT] at hT
  obtain ⟨rfl,rfl⟩:=hT
  obtain ⟨S3,hE3,hrd,hI⟩:=Inv.lendExt (A:=[]) hI
  have hrs:=RowRd.rows (hR3.monoR fun _ _ h=>RdT.mono hE3.1 h) hrd
  exact ⟨_,[],S3,rfl,hI,(hE.trans hE2).trans hE3,rfl,_,rfl,hrs⟩
 ·have hb':¬ (sgn s n' e=true ∨ sgn s n' o=true):=fun h=>by rw [<- jR,hb] at h; cases h
  rw [ah hb'] at hT
  split at hT
  ·rename_i h44
   refine Run.callPure dj dp hI (cX s n' 44 S2) fun w' hI=>?_
   refine bQ ?_
   rw [h44]
   refine aw (fun hb=>by cases hb) (fun _=>?_)
   have:=jF h44
   refine fI (a:=n') (b:=1) rfl rfl (by omega) ?_
   refine ⟨⟨g,n'+1,acc++[t],S2,css++[[.int .i64 t.kind,.int .i64 t.n,.string t.name,.slice a t.kids.length m]],by omega,rfl,by omega,by omega,?_,hT,hE.trans hE2,hR3,hI⟩,?_⟩
   ·rw [bA]; simp only [bw,bU]; omega
   ·simp only [intOf,dv]; omega
  ·cases hT
theorem Om {g:Nat} (hT:As g) (hR:uB g) {s:Bs} {i d:Nat} {ts:List T} {n:Nat} {t:T} {e:Nat} (h1:jp g s i d 93 124 []=some (ts,n))
  (h2:(sgn s n 93=true/\t=kr ts ZN/\e=n+1) ∨ (sgn s n 93=false/\∃ u m,kZ g s (n+1) d 3=some (u,m)/\sgn s m 93=true/\t=kr ts u/\e=m+1))
  (hs:s.length<=100000) (hi:i<=s.length) (hd:d<=100) (S:ae):Tri Tryz.prog Ou [.string (st s),.int .i64 (i:Int),.int .i64 (d:Int)] [] S (XX t e):=by
 intro w hI
 have hle:=(iW g).2.2.2 _ _ _ _ _ _ _ _ h1
 have hln:=K4 _ _ _ _ _ _ _ _ _ h1
 simp only [bU] at hln
 refine zg.2 ?_
 dsimp only[zg,dN]
 refine aT hI aZ fun b6 w' hI=>?_
 refine Run.call0E zB Aw hI (hT s i d 93 124 ts n S h1 hs hi hd) fun v I' S1 w'=>?_
 rintro ⟨rfl,u,rfl,hu⟩ hE1 hI
 have hI:Inv w [] [.blk b6 (.cells #[.int .i64 0,.int .i64 0,.string ⟨#[]⟩,.slice none 0 0] ab)] S1 w':=hI
 refine ar (v:=u) rfl ?_
 refine ar (v:=.int .i64 (n:Int)) rfl ?_
 refine fN (by omega) ?_
 refine aw (fun hb=>by cases hb) (fun _=>?_)
 refine Run.callPure dj dp hI (cX s n 93 S1) fun w' hI=>?_
 rcases h2 with ⟨h3,rfl,rfl⟩|⟨h3,x,m,h4,h5,rfl,rfl⟩
 ·rw [h3]
  refine aw (fun _=>?_) (fun hb=>by cases hb)
  refine Run.call0E dT dP hI (eP ⟨#[91,93]⟩ (by decide +kernel) (lQ S1) (by simp)) fun v I' S2 w'=>?_
  rintro ⟨rfl,cs,rfl,hcs⟩ hE2 hI
  refine Run.call0E yb yM hI (wn (hu.monoT hE2.1) hcs (by omega)) fun v I' S3 w'=>?_
  rintro ⟨rfl,ds,rfl,hds⟩ hE3 hI
  refine fI (a:=n) (b:=1) rfl rfl (by omega) ?_
  obtain ⟨kv,rfl,_,_,_,a,k,rfl,_⟩:=RdT.iff.1 hds
  refine aC hI 0 rfl ad rfl rfl (by simp [Value.oneCell']) fun w' hI=>?_
  refine bJ hI 0 ad rfl rfl ?_
  exact ⟨_,[],S3,rfl,hI.nil,(hE1.trans hE2).trans hE3,rfl,_,rfl,hds⟩
 ·rw [h3]
  refine aw (fun hb=>by cases hb) (fun _=>?_)
  refine fI (a:=n) (b:=1) rfl rfl (by omega) ?_
  have hle2:=(iW g).1 _ _ _ _ _ _ h4
  refine Run.call0E g7 gT hI (hR s (n+1) d 3 x m S1 h4 hs (by omega) hd (by omega)) fun v I' S2 w'=>?_
  rintro ⟨rfl,cs,rfl,hcs⟩ hE2 hI
  obtain ⟨kv,rfl,_,_,_,a,k,rfl,_⟩:=RdT.iff.1 hcs
  refine ar (v:=.agg _) rfl ?_
  refine ar (v:=.int .i64 (m:Int)) rfl ?_
  refine aT hI aZ fun b10 w' hI=>?_
  refine aC hI 1 rfl ad rfl rfl (by simp [Value.oneCell']) fun w' hI=>?_
  refine fN (by omega) ?_
  refine aw (fun hb=>by cases hb) (fun _=>?_)
  refine Run.callPure dj dp hI (cX s m 93 S2) fun w' hI=>?_
  refine bQ ?_
  rw [h5]
  refine aw (fun hb=>by cases hb) (fun _=>?_)
  refine av hI 1 ad rfl rfl ?_
  refine Run.call0E yb yM hI (wn (hu.monoT hE2.1) hcs (by omega)) fun v I' S3 w'=>?_
  rintro ⟨rfl,ds,rfl,hds⟩ hE3 hI
  refine fI (a:=m) (b:=1) rfl rfl (by omega) ?_
  obtain ⟨kv,rfl,_,_,_,a,k,rfl,_⟩:=RdT.iff.1 hds
  refine aC hI 0 rfl ad rfl rfl (by simp [Value.oneCell']) fun w' hI=>?_
  refine bJ hI 0 ad rfl rfl ?_
  exact ⟨_,[],S3,rfl,hI.nil,(hE1.trans hE2).trans hE3,rfl,_,rfl,hds⟩
theorem MS {n:Bs} (h:n.length<=6):(st n).size<=maxLen:=by rw [qs]; simp only [maxLen]; omega
theorem Wz {f:Nat} (ihR:∀ g,g<f->uB g) (ihT:∀ g,g<f->As g):MJ f:=by
 intro s i d t n S h hs hi hd w hI
 cases f with
 | zero=>simp [xH] at h
 | succ g=>
 have hR:=ihR g (by omega)
 have hT:=ihT g (by omega)
 have hle:=(iW (g+1)).2.2.1 _ _ _ _ _ h
 rw [xH] at h
 split at h
 ·cases h
 rename_i h0
 have hd0:1<=d:=by omega
 have hlt:i<s.length:=by omega
 refine Ad.2 ?_
 dsimp only[Ad,dN]
 refine aT hI aZ fun b6 w' hI=>?_
 have hI:Inv w [] [.blk b6 (.cells #[.int .i64 0,.int .i64 0,.string ⟨#[]⟩,.slice none 0 0] ab)] S w':=hI
 refine ⟨fun b w'=>b=.bool false/\Inv w [] [.blk b6 (.cells #[.int .i64 0,.int .i64 0,.string ⟨#[]⟩,.slice none 0 0] ab)] S w',?_,?_⟩
 ·refine fN (by omega) ?_
  refine rpG ?_
  refine gu ba ?_
  refine Ct (by omega) ?_
  refine rpG ?_
  exact ⟨rfl,hI⟩
 intro t23 _ _ _ _ _ _ _ w'
 rintro ⟨rfl,hI⟩
 refine aw (fun hb=>by cases hb) (fun _=>?_)
 refine fa ba hlt ?_
 split at h
 ·rename_i h40
  rw [mZ hlt,bk] at h40
  refine gF (by omega) ?_
  refine aw (fun _=>?_) (fun hb=>by cases hb)
  split at h
  ·cases h
  rename_i u m hr
  split at h
  ·rename_i h41
   simp only [bg,cT] at h
   obtain ⟨rfl,rfl⟩:=h
   have hle2:=(iW g).1 _ _ _ _ _ _ hr
   refine fI (a:=i) (b:=1) rfl rfl (by omega) ?_
   refine Run.call0E g7 gT hI (hR s (i+1) d 3 u m S hr hs (by omega) hd (by omega)) fun v I' S2 w'=>?_
   rintro ⟨rfl,cs,rfl,hcs⟩ hE2 hI
   obtain ⟨kv,rfl,_,_,_,a,k,rfl,_⟩:=RdT.iff.1 hcs
   refine ar (v:=.agg _) rfl ?_
   refine ar (v:=.int .i64 (m:Int)) rfl ?_
   refine aT hI aZ fun b8 w' hI=>?_
   refine aC hI 1 rfl ad rfl rfl (by simp [Value.oneCell']) fun w' hI=>?_
   refine fN (by omega) ?_
   refine aw (fun hb=>by cases hb) (fun _=>?_)
   refine Run.callPure dj dp hI (cX s m 41 S2) fun w' hI=>?_
   refine bQ ?_
   rw [h41]
   refine aw (fun hb=>by cases hb) (fun _=>?_)
   refine av hI 1 ad rfl rfl ?_
   refine fI (a:=m) (b:=1) rfl rfl (by omega) ?_
   refine aC hI 0 rfl ad rfl rfl (by simp [Value.oneCell']) fun w' hI=>?_
   refine bJ hI 0 ad rfl rfl ?_
   exact ⟨_,[],S2,rfl,hI.nil,hE2,rfl,_,rfl,hcs⟩
  ·cases h
 rename_i h40
 rw [mZ hlt,bk] at h40
 refine fm (by omega) ?_
 refine aw (fun hb=>by cases hb) (fun _=>?_)
 refine ⟨fun b w'=>b=.bool (sgn s i 91 && !sgn s (i+1) 93)/\Inv w [] [.blk b6 (.cells #[.int .i64 0,.int .i64 0,.string ⟨#[]⟩,.slice none 0 0] ab)] S w',?_,?_⟩
 ·refine fa ba hlt ?_
  by_cases h91:s[i].toNat=91
  ·refine gF (by omega) ?_
   refine rpG ?_
   refine fI (a:=i) (b:=1) rfl rfl (by omega) ?_
   refine Run.callPure dj dp hI (cX s (i+1) 93 S) fun w' hI=>?_
   refine bQ ?_
   refine rpG ?_
   exact ⟨by rw [mZ hlt,aI h91,dg],hI⟩
  ·refine fm (by omega) ?_
   refine rpG ?_
   exact ⟨by rw [mZ hlt,aP h91,iG],hI⟩
 intro t65 _ _ _ _ _ _ _ _ _ _ w'
 rintro ⟨rfl,hI⟩
 split at h
 ·rename_i h91
  rw [h91.1,h91.2]
  refine aw (fun _=>?_) (fun hb=>by cases hb)
  split at h
  ·cases h
  rename_i ts m hts
  have h2:(sgn s m 93=true/\t=kr ts ZN/\n=m+1) ∨ (sgn s m 93=false/\∃ u k,kZ g s (m+1) (d - 1) 3=some (u,k)/\sgn s k 93=true/\t=kr ts u/\n=k+1):=by
   split at h
   ·rename_i h3
    simp only [bg,cT] at h
    exact .inl ⟨h3,h.1.symm,h.2.symm⟩
   ·rename_i h3
    split at h
    ·cases h
    rename_i u k hr
    split at h
    ·rename_i h4
     simp only [bg,cT] at h
     exact .inr ⟨bB.2 h3,u,k,hr,h4,h.1.symm,h.2.symm⟩
    ·cases h
  refine fI (a:=i) (b:=1) rfl rfl (by omega) ?_
  refine Hc (a:=d) (b:=1) rfl rfl hd0 (by omega) ?_
  refine Run.call0E MY L5 hI (Om hT hR hts h2 hs (by omega) (by omega) S) fun v I' S2 w'=>?_
  rintro ⟨rfl,cs,rfl,hcs⟩ hE2 hI
  obtain ⟨kv,rfl,_,_,_,a,k,rfl,_⟩:=RdT.iff.1 hcs
  refine ar (v:=.agg _) rfl ?_
  refine ar (v:=.int .i64 (n:Int)) rfl ?_
  refine aC hI 0 rfl ad rfl rfl (by simp [Value.oneCell']) fun w' hI=>?_
  refine bJ hI 0 ad rfl rfl ?_
  exact ⟨_,[],S2,rfl,hI.nil,hE2,rfl,_,rfl,hcs⟩
 rename_i h91
 have e91:(sgn s i 91 && !sgn s (i+1) 93)=false:=by
  cases h5:sgn s i 91
  ·rfl
  ·cases h6:sgn s (i+1) 93
   ·exact absurd ⟨h5,h6⟩ h91
   ·rfl
 rw [e91]
 refine aw (fun hb=>by cases hb) (fun _=>?_)
 refine ⟨fun b w'=>b=.bool (upp s i)/\Inv w [] [.blk b6 (.cells #[.int .i64 0,.int .i64 0,.string ⟨#[]⟩,.slice none 0 0] ab)] S w',?_,?_⟩
 ·refine fa ba hlt ?_
  by_cases h65:65<=s[i].toNat
  ·refine qJ (by omega) ?_
   refine rpG ?_
   refine fa ba hlt ?_
   refine gy ?_
   refine rpG ?_
   refine ⟨?_,hI⟩
   rw [upp,rb hlt,aI h65,dg]
   congr 1
   rw [fg]
   omega
  ·refine Ct (by omega) ?_
   refine rpG ?_
   exact ⟨by rw [upp,rb hlt,aP h65,iG],hI⟩
 intro t83 _ _ _ _ _ _ _ _ _ w'
 rintro ⟨rfl,hI⟩
 split at h
 ·rename_i hup
  simp only [bg,cT] at h
  obtain ⟨rfl,rfl⟩:=h
  rw [hup]
  rw [upp,rb hlt,bu,bk,bk] at hup
  refine aw (fun _=>?_) (fun hb=>by cases hb)
  refine fa ba hlt ?_
  refine XG (c:=(s[i].toNat:Int) - 65) (IntWalk.u8_in _ (by omega)) ?_
  refine sJ gY fK (IntWalk.i64_in _ (by omega)) ?_
  refine Run.callPure Hs FC hI (v8 _ S) fun w' hI=>?_
  refine fI (a:=i) (b:=1) rfl rfl (by omega) ?_
  refine aC hI 0 rfl ad rfl rfl (by simp [Value.oneCell']) fun w' hI=>?_
  refine bJ hI 0 ad rfl rfl ?_
  have eg:((s.getD i 0).toNat:Int) - 65=(s[i].toNat:Int) - 65:=by rw [Tt,gL hlt]; rfl
  rw [eg]
  exact ⟨_,[],S,rfl,hI.nil,Ext.refl _ _ _,rfl,_,rfl,RdT.nil (by simp [inI]) (by unfold inI; omega) (by decide +kernel) (be _)⟩
 rename_i hup
 rw [bB.2 hup]
 refine aw (fun hb=>by cases hb) (fun _=>?_)
 refine ⟨fun b w'=>b=.bool (dig s i || (sgn s i 45 && dig s (i+1)))/\Inv w [] [.blk b6 (.cells #[.int .i64 0,.int .i64 0,.string ⟨#[]⟩,.slice none 0 0] ab)] S w',?_,?_⟩
 ·refine Run.callPure l4 lZ hI (iZ s i S) fun w' hI=>?_
  cases hdi:dig s i
  ·refine rpG ?_
   refine fa ba hlt ?_
   by_cases h45:s[i].toNat=45
   ·refine gF (by omega) ?_
    refine rpG ?_
    refine fI (a:=i) (b:=1) rfl rfl (by omega) ?_
    refine Run.callPure l4 lZ hI (iZ s (i+1) S) fun w' hI=>?_
    refine rpG ?_
    exact ⟨by rw [mZ hlt,aI h45,dg,fV],hI⟩
   ·refine fm (by omega) ?_
    refine rpG ?_
    exact ⟨by rw [mZ hlt,aP h45,iG,fV],hI⟩
  ·refine rpG ?_
   exact ⟨by rw [s6],hI⟩
 intro t106 _ _ _ _ _ _ _ _ _ _ _ _ _ _ w'
 rintro ⟨rfl,hI⟩
 split at h
 ·rename_i hdg
  have:(dig s i || (sgn s i 45 && dig s (i+1)))=true:=by rw [jR,bu]; exact hdg
  rw [this]
  refine aw (fun _=>?_) (fun hb=>by cases hb)
  obtain ⟨k,hk,rfl,_,_,hnum⟩:=Hf h (by omega) S
  refine Run.callPure JF IZ hI hnum fun w' hI=>?_
  refine ar (v:=Lr 2 k) rfl ?_
  refine ar (v:=.int .i64 (n:Int)) rfl ?_
  refine aT hI aZ fun b10 w' hI=>?_
  refine aC hI 1 rfl ad rfl rfl (by simp [Value.oneCell']) fun w' hI=>?_
  refine fN (by omega) ?_
  refine aw (fun hb=>by cases hb) (fun _=>?_)
  refine av hI 1 ad rfl rfl ?_
  refine aC hI 0 rfl ad rfl rfl (by simp [Value.oneCell']) fun w' hI=>?_
  refine bJ hI 0 ad rfl rfl ?_
  exact ⟨_,[],S,rfl,hI.nil,Ext.refl _ _ _,rfl,_,rfl,RdT.nil (by simp [inI]) hk (by decide +kernel) (be _)⟩
 rename_i hdg
 have:(dig s i || (sgn s i 45 && dig s (i+1)))=false:=by
  rw [bB,ne_eq,jR,bu]; exact hdg
 rw [this]
 refine aw (fun hb=>by cases hb) (fun _=>?_)
 refine Run.callPure DN CX hI (zy hlt hs S) fun w' hI=>?_
 cases hnm:At s i with
 | none=>rw [hnm] at h; cases h
 | some q=>
 obtain ⟨name,m⟩:=q
 rw [hnm] at h
 simp only [] at h
 simp only [TN]
 have hnl:=yC hlt hnm
 refine ar (v:=.string (st name)) rfl ?_
 refine ar (v:=.int .i64 (m:Int)) rfl ?_
 refine fN (by omega) ?_
 refine aw (fun hb=>by cases hb) (fun _=>?_)
 refine Run.callPure dj dp hI (cX s m 40 S) fun w' hI=>?_
 refine bQ ?_
 split at h
 ·rename_i h40'
  simp only [bg,cT] at h
  obtain ⟨rfl,rfl⟩:=h
  rw [h40']
  refine aw (fun _=>?_) (fun hb=>by cases hb)
  refine Run.call0E dT dP hI (eP (st name) (MS hnl.2.2.1) (lQ S) (by simp)) fun v I' S2 w'=>?_
  rintro ⟨rfl,cs,rfl,hcs⟩ hE2 hI
  obtain ⟨kv,rfl,_,_,_,a,k,rfl,_⟩:=RdT.iff.1 hcs
  refine aC hI 0 rfl ad rfl rfl (by simp [Value.oneCell']) fun w' hI=>?_
  refine bJ hI 0 ad rfl rfl ?_
  exact ⟨_,[],S2,rfl,hI.nil,hE2,rfl,_,rfl,hcs⟩
 ·rename_i h40'
  rw [Bool.not_eq_false] at h40'
  rw [h40']
  refine aw (fun hb=>by cases hb) (fun _=>?_)
  split at h
  ·cases h
  rename_i ts k hts
  simp only [bg,cT] at h
  obtain ⟨rfl,rfl⟩:=h
  have hm:=jF h40'
  have hle2:=(iW g).2.2.2 _ _ _ _ _ _ _ _ hts
  refine fI (a:=m) (b:=1) rfl rfl (by omega) ?_
  refine Hc (a:=d) (b:=1) rfl rfl hd0 (by omega) ?_
  refine Run.call0E zB Aw hI (hT s (m+1) (d - 1) 41 41 ts k S hts hs (by omega) (by omega)) fun v I' S2 w'=>?_
  rintro ⟨rfl,u,rfl,hu⟩ hE2 hI
  refine ar (v:=u) rfl ?_
  refine ar (v:=.int .i64 (k:Int)) rfl ?_
  refine fN (by omega) ?_
  refine aw (fun hb=>by cases hb) (fun _=>?_)
  obtain ⟨a,c,rfl,_⟩:=id hu
  refine vM ⟨_,_,_,rfl⟩ ?_
  refine fI (a:=k) (b:=1) rfl rfl (by omega) ?_
  refine aC hI 0 rfl ad rfl rfl (by simp [Value.oneCell']) fun w' hI=>?_
  refine bJ hI 0 ad rfl rfl ?_
  exact ⟨_,[],S2,rfl,hI.nil,hE2,rfl,_,rfl,RdT.iff.2 ⟨_,rfl,by simp [inI,T.kind,Pt],by simp [inI,T.n,Pt],MS hnl.2.2.1,hu⟩⟩
theorem YM {f:Nat} (ihR:∀ g,g<f->uB g) (ihP:∀ g,g<f->MJ g):uB f:=by
 intro s i d l t n S h hs hi hd hl w hI
 cases f with
 | zero=>simp [kZ] at h
 | succ f=>
 refine CB.2 ?_
 dsimp only[CB,lC]
 refine aT hI aZ fun b8 w' hI=>?_
 have hI:Inv w [] [.blk b8 (.cells #[.int .i64 0,.int .i64 0,.string ⟨#[]⟩,.slice none 0 0] ab)] S w':=hI
 cases l with
 | zero=>
  rw [kZ] at h
  refine gF rfl ?_
  refine aw (fun _=>?_) (fun hb=>by cases hb)
  refine Run.call0E MX MM hI (ihP f (by omega) s i d t n S h hs hi hd) fun v I' S2 w'=>?_
  rintro ⟨rfl,cs,rfl,hcs⟩ hE2 hI
  obtain ⟨kv,rfl,_,_,_,a,k,rfl,_⟩:=RdT.iff.1 hcs
  refine ar (v:=.agg _) rfl ?_
  refine ar (v:=.int .i64 (n:Int)) rfl ?_
  refine aC hI 0 rfl ad rfl rfl (by simp [Value.oneCell']) fun w' hI=>?_
  refine bJ hI 0 ad rfl rfl ?_
  exact ⟨_,[],S2,rfl,hI.nil,hE2,rfl,_,rfl,hcs⟩
 | succ l=>
  rw [kZ] at h
  split at h
  ·cases h
  rename_i t0 n0 hr
  have hle:=(iW f).1 _ _ _ _ _ _ hr
  refine fm (by omega) ?_
  refine aw (fun hb=>by cases hb) (fun _=>?_)
  refine Hc (a:=l+1) (b:=1) rfl rfl (by omega) (by omega) ?_
  rw [Nat.add_sub_cancel]
  refine Run.call0E g7 gT hI (ihR f (by omega) s i d l t0 n0 S hr hs hi hd (by omega)) fun v I' S1 w'=>?_
  rintro ⟨rfl,cs,rfl,hcs⟩ hE1 hI
  obtain ⟨kv,rfl,_,_,_,a,k,rfl,_⟩:=RdT.iff.1 hcs
  refine ar (v:=.agg _) rfl ?_
  refine ar (v:=.int .i64 (n0:Int)) rfl ?_
  refine aT hI aZ fun b10 w' hI=>?_
  refine aC hI 1 rfl ad rfl rfl (by simp [Value.oneCell']) fun w' hI=>?_
  refine ⟨fun a w'=>∃ (f' n':Nat) (t':T) (ds:List Value) (S1:ae),f'<=f/\a=.int .i64 (n':Int)/\n'<=s.length/\Qd f' s n' d l t'=some (t,n)/\Ext w.heap.size [] S S1/\RdT S1 ds t'/\Inv w [] [.blk b8 (.cells #[.int .i64 0,.int .i64 0,.string ⟨#[]⟩,.slice none 0 0] ab),.blk b10 (.cells ds.toArray ab)] S1 w',
   fun a _=>s.length+1 - (intOf a).toNat,⟨f,n0,t0,_,S1,aW _,rfl,hle.2,h,hE1,hcs,hI⟩,?_⟩
  clear h hE1 hcs hI hr hle
  intro _ _ _ _ t11 _ _ _ _ _ _ _ _ _ _ _ _ _ _ _ _ _ _ _ _ _ _ _ _ _ _ _ _ _ _ _ _ _ _ _ _ _ _ _ _ _ _ w'
  rintro ⟨f',n',t',ds,S1,hf',rfl,hn',ho,hE,hds,hI⟩
  obtain ⟨kd,rfl,_,_,hts',da,dm,rfl,_⟩:=RdT.iff.1 hds
  cases f' with
  | zero=>simp [Qd] at ho
  | succ g=>
  rw [Qd] at ho
  refine qJ (by omega) ?_
  refine aw (fun _=>?_) (fun hb=>by cases hb)
  refine Run.callPure U8 U5 hI (SD hs hn' S1) fun w' hI=>?_
  cases hop:opF s n' with
  | none=>
   rw [hop] at ho
   simp only [bg,cT] at ho
   obtain ⟨rfl,rfl⟩:=ho
   simp only [opV]
   refine ar (v:=.string ⟨#[]⟩) rfl ?_
   refine ar (v:=.int .i64 (n':Int)) rfl ?_
   refine ⟨fun b w'=>b=.bool true/\Inv w [] [.blk b8 (.cells #[.int .i64 0,.int .i64 0,.string ⟨#[]⟩,.slice none 0 0] ab),.blk b10 (.cells #[.int .i64 t'.kind,.int .i64 t'.n,.string t'.name,.slice da t'.kids.length dm] ab)] S1 w',?_,?_⟩
   ·refine bS ?_
    rw [aI rfl]
    refine rpG ?_
    exact ⟨rfl,hI⟩
   intro t48 _ _ _ _ _ _ _ w'
   rintro ⟨rfl,hI⟩
   refine aw (fun _=>?_) (fun hb=>by cases hb)
   refine av hI 1 ad rfl rfl ?_
   refine aC hI 0 rfl ad rfl rfl (by simp [Value.oneCell']) fun w' hI=>?_
   refine bJ hI 0 ad rfl rfl ?_
   exact ⟨_,[],S1,rfl,hI.nil,hE,rfl,_,rfl,hds⟩
  | some q=>
   obtain ⟨name,after⟩:=q
   rw [hop] at ho
   simp only [] at ho
   simp only [opV]
   have hol:=Wx hop
   refine ar (v:=.string (st name)) rfl ?_
   refine ar (v:=.int .i64 (after:Int)) rfl ?_
   refine ⟨fun b w'=>b=.bool (!decide (cJ (st name)=((l+1:Nat):Int)))/\Inv w [] [.blk b8 (.cells #[.int .i64 0,.int .i64 0,.string ⟨#[]⟩,.slice none 0 0] ab),.blk b10 (.cells #[.int .i64 t'.kind,.int .i64 t'.n,.string t'.name,.slice da t'.kids.length dm] ab)] S1 w',?_,?_⟩
   ·refine Fo (b:=[]) ?_
    rw [aP hol.2.2.2]
    refine rpG ?_
    refine Run.callPure gg gf hI (eJ _ S1) fun w' hI=>?_
    refine ef ?_
    refine rpG ?_
    exact ⟨rfl,hI⟩
   intro t48 _ _ _ _ _ _ _ w'
   rintro ⟨rfl,hI⟩
   split at ho
   ·rename_i hlv
    rw [aI hlv]
    refine aw (fun hb=>by cases hb) (fun _=>?_)
    split at ho
    ·cases ho
    rename_i r e hr
    have hle:=(iW g).1 _ _ _ _ _ _ hr
    refine Hc (a:=l+1) (b:=1) rfl rfl (by omega) (by omega) ?_
    rw [Nat.add_sub_cancel]
    refine Run.call0E g7 gT hI (ihR g (by omega) s after d l r e S1 hr hs (by omega) hd (by omega)) fun v I' S2 w'=>?_
    rintro ⟨rfl,es,rfl,hes⟩ hE2 hI
    obtain ⟨ke,rfl,_,_,_,ea,em,rfl,_⟩:=RdT.iff.1 hes
    refine ar (v:=.agg _) rfl ?_
    refine ar (v:=.int .i64 (e:Int)) rfl ?_
    refine aT hI aZ fun b14 w' hI=>?_
    refine aC hI 2 rfl ad rfl rfl (by simp [Value.oneCell']) fun w' hI=>?_
    refine fN (by omega) ?_
    refine aw (fun hb=>by cases hb) (fun _=>?_)
    refine av hI 1 ad rfl rfl ?_
    refine av hI 2 ad rfl rfl ?_
    refine wX (v:=fun b=>.slice (some ⟨b,0,none⟩) 2 2) (o:=.cells #[.int .i64 t'.kind,.int .i64 t'.n,.string t'.name,.slice da t'.kids.length dm,.int .i64 r.kind,.int .i64 r.n,.string r.name,.slice ea r.kids.length em] ab) hI (by kernel_rfl) fun b20 w' hI=>?_
    obtain ⟨S3,hI,hE3,hS3⟩:=Inv.pub1 (A:=[_,_,_]) hI
    have hks:=Rl hS3 (RdT.mono (hE2.1.trans hE3.1) hds) (RdT.mono hE3.1 hes)
    refine Run.call0E dT dP hI (eP (st name) (MS hol.2.2.1) hks (by simp)) fun v I' S4 w'=>?_
    rintro ⟨rfl,gs,rfl,hgs⟩ hE4 hI
    obtain ⟨kg,rfl,_,_,_,ga,gm,rfl,_⟩:=RdT.iff.1 hgs
    have hE':=((hE.trans hE2).trans hE3).trans hE4
    refine aC hI 1 rfl ad rfl rfl (by simp [Value.oneCell']) fun w' hI=>?_
    split at ho
    ·rename_i hl2
     subst hl2
     simp only [bg,cT] at ho
     obtain ⟨rfl,rfl⟩:=ho
     refine gF rfl ?_
     refine aw (fun _=>?_) (fun hb=>by cases hb)
     refine av hI 1 ad rfl rfl ?_
     refine aC hI 0 rfl ad rfl rfl (by simp [Value.oneCell']) fun w' hI=>?_
     refine bJ hI 0 ad rfl rfl ?_
     exact ⟨_,[],S4,rfl,hI.nil,hE',rfl,_,rfl,hgs⟩
    ·refine fm (by omega) ?_
     refine aw (fun hb=>by cases hb) (fun _=>?_)
     refine ⟨⟨g,e,_,_,S4,by omega,rfl,hle.2,ho,hE',hgs,hI.pick [true,true,false]⟩,?_⟩
     simp only [intOf,dv]
     omega
   ·rename_i hlv
    rw [aP hlv]
    simp only [bg,cT] at ho
    obtain ⟨rfl,rfl⟩:=ho
    refine aw (fun _=>?_) (fun hb=>by cases hb)
    refine av hI 1 ad rfl rfl ?_
    refine aC hI 0 rfl ad rfl rfl (by simp [Value.oneCell']) fun w' hI=>?_
    refine bJ hI 0 ad rfl rfl ?_
    exact ⟨_,[],S1,rfl,hI.nil,hE,rfl,_,rfl,hds⟩
theorem VO:∀ F f,f<F->uB f/\MJ f/\As f
 | 0,f,h=>by omega
 | F+1,f,h=>by
  have ih:=VO F
  have hR:uB f:=YM (fun g hg=>(ih g (by omega)).1) (fun g hg=>(ih g (by omega)).2.1)
  have hT:As f:=V5 fun g hg=>(ih g (by omega)).1
  exact ⟨hR,Wz (fun g hg=>(ih g (by omega)).1) (fun g hg=>(ih g (by omega)).2.2),hT⟩
theorem Ki (f:Nat):uB f:=(VO (f+1) f (by omega)).1
end
end
section
open Go Go.RowKit

def mE (cs:List Value) (n:Nat):Prop:=cs=[.int .u8 (n:Int)]/\n<256
abbrev rdI (br:Nat) (sl:Value) (p:Nat):Item:=.blk br (.cells #[sl,.int .i64 (p:Int)] Qf)
abbrev rdP (br:Nat):Value:=.pointer (some ⟨br,0,none⟩)
section
variable {P:Program} {w:World} {K:Value->World->Prop}
theorem QX {T:TypeId} {cx cy:Bool} {x y:Int} {a b:Nat} (hx:x=a) (hy:y=b) (hb:0<b) (hk:K (.int .i64 ((a % b:Nat):Int)) w):Run P (cK .rem T cx cy (.int .i64 x) (.int .i64 y)) w K:=by
 subst hx hy
 exact RH hb hk
theorem Su {T:TypeId} {cx cy:Bool} {x y:Int} {a b:Nat} (hx:x=a) (hy:y=b) (hb:0<b) (ha:a<=9223372036854775807) (hk:K (.int .i64 ((a / b:Nat):Int)) w):Run P (cK .quo T cx cy (.int .i64 x) (.int .i64 y)) w K:=by
 subst hx hy
 exact Z9 hb ha hk
theorem aap {T:TypeId} {cx cy:Bool} {x y:Int} {a b:Nat} (hx:x=a) (hy:y=b) (ha:a<4611686018427387904) (hb:b<4611686018427387904) (hk:K (.int .i64 ((a ^^^ b:Nat):Int)) w):Run P (cK .xor T cx cy (.int .i64 x) (.int .i64 y)) w K:=by
 subst hx hy
 exact aar ha hb hk
end
theorem RdSl.u8 {S:ae} {sl:Value} {ys:List Nat} (h:RdSl S 1 mE sl ys) (h0:0<ys.length):∃ b o cap c E fz,sl=.slice (some ⟨b,o,none⟩) ys.length cap/\S b=some (.cells c E fz)/\
  ∀ i,i<ys.length->∃ y:Nat,c[o+i * 1]?=some (.int .u8 (y:Int))/\y<256:=by
 obtain ⟨a,cap,rfl,hl,hc,h⟩:=h
 rcases h with rfl|⟨b,o,c,E,fz,rfl,hS,hR⟩
 ·simp at h0
 ·refine ⟨b,o,cap,c,E,fz,rfl,hS,fun i hi=>?_⟩
  obtain ⟨h1,h2⟩:=hR i hi
  exact ⟨ys[i],aH h1 0 _ rfl,h2⟩
section
attribute [local irreducible] Run CondV az aO
abbrev abj (S:ae) (br:Nat) (sl:Value) (p n:Nat):Value->List Item->ae->Prop:=fun v I' S'=>S'=S/\I'=[rdI br sl (p+1)]/\∃ k:Nat,k<n/\v=.int .i64 (k:Int)
theorem eH {ys:List Nat} {S:ae} {sl:Value} {br p n:Nat} (h:RdSl S 1 mE sl ys) (hp:p<=1000000000000) (hn:0<n):Tri Tryz.prog Fq [rdP br,.int .i64 (n:Int)] [rdI br sl p] S (abj S br sl p n):=by
 intro w hI
 refine r7.2 ?_
 dsimp only[r7,aY]
 obtain ⟨X,hX⟩:∃ X,X=bE [rdI br sl p]:=⟨_,rfl⟩
 rw [<- hX] at hI ⊢
 have hsl:∃ a m cap,sl=.slice a m cap/\m=ys.length:=by
  obtain ⟨a,cap,e,_⟩:=h
  exact ⟨a,_,cap,e,rfl⟩
 refine aB ?_
 refine au sV ?_
 refine aN hI 0 aG rfl rfl ?_
 refine bp (by omega) ?_
 refine aB ?_
 refine au sV ?_
 refine cW hI 0 (n:=1) rfl (by decide +kernel) rfl (by simp) (by simp [Value.cells,Value.oneCell']) fun w' hI=>?_
 have hI:Inv w X [rdI br sl (p+1)] S w':=hI
 have hN:∃ N:Nat,N=ys.length:=⟨_,rfl⟩
 refine ⟨fun t w'=>t=.bool (decide (ys.length=0))/\Inv w X [rdI br sl (p+1)] S w',?_,?_⟩
 ·refine fN (by omega) ?_
  refine RI (fun _=>?_) (fun hb=>by simp at hb)
  refine aB ?_
  refine au fX ?_
  refine aN hI 0 jo rfl rfl ?_
  refine aF h ec ?_
  refine bl ?_
  refine xP ?_
  refine ⟨?_,hI⟩
  simp
 intro t24 _ _ _ _ _ _ _ _ _ w'
 rintro ⟨rfl,hI⟩
 refine aL (fun _=>⟨_,_,_,rfl,hI,Ext.refl _ _ _,rfl,rfl,0,hn,rfl⟩) (fun h0=>?_)
 have h0:0<ys.length:=by omega
 obtain ⟨b,o,cap,c,E,fz,rfl,hS,hc⟩:=h.u8 h0
 refine aB ?_
 refine au sV ?_
 refine aN hI 0 aG rfl rfl ?_
 refine mx (by omega) ?_
 have ep:((p+1:Nat):Int) - 1=(p:Int):=by omega
 rw [ep]
 refine aB ?_
 refine au fX ?_
 refine aN hI 0 jo rfl rfl ?_
 refine eV ec ?_
 refine bH ?_
 refine aL (fun hlt=>?_) (fun _=>?_)
 ·have hlt':p<ys.length:=by omega
  obtain ⟨y,hy,hy2⟩:=hc p hlt'
  refine aB ?_
  refine au fX ?_
  refine aN hI 0 jo rfl rfl ?_
  refine aE ec hlt' ?_
  refine ct G3 ((hI.cellS hS).trans hy) ?_
  refine sJ gY fK (IntWalk.i64_in _ (by omega)) ?_
  refine RH hn ?_
  exact ⟨_,_,_,rfl,hI,Ext.refl _ _ _,rfl,rfl,y % n,un _ hn,rfl⟩
 ·obtain ⟨i1,hd1⟩:∃ i1,i1=p % ys.length:=⟨_,rfl⟩
  obtain ⟨i2,hd2⟩:∃ i2,i2=(p * 7+3) % ys.length:=⟨_,rfl⟩
  obtain ⟨q,hdq⟩:∃ q,q=p / ys.length:=⟨_,rfl⟩
  have hi1:i1<ys.length:=by rw [hd1]; exact un _ h0
  have hi2:i2<ys.length:=by rw [hd2]; exact un _ h0
  have hq:q<=p:=by rw [hdq]; exact Nat.div_le_self ..
  obtain ⟨y1,hv1,hy1⟩:=hc i1 hi1
  obtain ⟨y2,hv2,hy2⟩:=hc i2 hi2
  skip
  refine ⟨fun D x6 OO P3 PI NM O5 IG IQ Kw GX Ks Hl HQ N4 Ph FL TJ Tk T8 T6 UE O1 NG Rk XO WI UG G1 Ln z4 x3 CC Cw Du DE DG CS CL zp ze wa vA vY ut nR oK w_=>Fx D 0 [oK=.pointer (some ⟨br,0,none⟩),nR=.pointer (some ⟨br,0,none⟩),ut=.pointer (some ⟨br,0,none⟩),vY=.slice (some ⟨b,o,none⟩) ys.length cap,vA=.int .i64 (p:Int),wa=.pointer (some ⟨br,0,none⟩),ze=.pointer (some ⟨br,0,none⟩),zp=.pointer (some ⟨br,0,none⟩),CL=.slice (some ⟨b,o,none⟩) ys.length cap,CS=.int .i64 (ys.length:Int),DG=.int .i64 (((i1:Nat):Int)),DE=.pointer (some ⟨b,o+i1 * 1,none⟩),Du=.int .u8 ((y1:Nat):Int),Cw=.int .i64 (((y1:Nat):Int)),CC=.int .i64 ((((y1:Nat):Int) * 131)),x3=.pointer (some ⟨br,0,none⟩),z4=.pointer (some ⟨br,0,none⟩),Ln=.pointer (some ⟨br,0,none⟩),G1=.slice (some ⟨b,o,none⟩) ys.length cap,UG=.int .i64 (p:Int),WI=.int .i64 (((p:Int) * 7)),XO=.int .i64 ((((p:Int) * 7)+3)),Rk=.pointer (some ⟨br,0,none⟩),NG=.pointer (some ⟨br,0,none⟩),O1=.pointer (some ⟨br,0,none⟩),UE=.slice (some ⟨b,o,none⟩) ys.length cap,T6=.int .i64 (ys.length:Int),T8=.int .i64 (((i2:Nat):Int)),Tk=.pointer (some ⟨b,o+i2 * 1,none⟩),TJ=.int .u8 ((y2:Nat):Int),FL=.int .i64 (((y2:Nat):Int)),Ph=.int .i64 ((((y2:Nat):Int) * 1117)),N4=.int .i64 (((((y1:Nat):Int) * 131)+(((y2:Nat):Int) * 1117))),HQ=.int .i64 (p:Int),Hl=.int .i64 (((p:Int) * 29)),Ks=.int .i64 ((((((y1:Nat):Int) * 131)+(((y2:Nat):Int) * 1117))+((p:Int) * 29))),GX=.int .i64 (p:Int),Kw=.pointer (some ⟨br,0,none⟩),IQ=.pointer (some ⟨br,0,none⟩),IG=.pointer (some ⟨br,0,none⟩),O5=.slice (some ⟨b,o,none⟩) ys.length cap,NM=.int .i64 (ys.length:Int),PI=.int .i64 (((q:Nat):Int)),P3=.int .i64 ((((q:Nat):Int) * 53)),OO=.int .i64 (((((((y1:Nat):Int) * 131)+(((y2:Nat):Int) * 1117))+((p:Int) * 29))+(((q:Nat):Int) * 53))),x6=.int .i64 (((((((y1:Nat):Int) * 131)+(((y2:Nat):Int) * 1117))+((p:Int) * 29))+(((q:Nat):Int) * 53)))]/\Inv w X [rdI br (.slice (some ⟨b,o,none⟩) ys.length cap) (p+1)] S w_,⟨Fx.nil _ _,hI.draw⟩,⟨?_,?_,?_,?_,?_,?_,?_,?_,?_,?_,?_,?_,?_,?_,?_,?_,?_,?_,?_,?_,?_,?_,?_,?_,?_,?_,?_,?_,?_,?_,?_,?_,?_,?_,?_,?_,?_,?_,?_,?_,?_,?_,?_,?_,?_,?_,trivial⟩,?_⟩
  all_goals (intro D bF; intros; rename_i x6 OO P3 PI NM O5 IG IQ Kw GX Ks Hl HQ N4 Ph FL TJ Tk T8 T6 UE O1 NG Rk XO WI UG G1 Ln z4 x3 CC Cw Du DE DG CS CL zp ze wa vA vY ut nR oK w_ hA_; have hF_:=hA_.1; obtain ⟨⟨cj,ci,bR,ce,bP,bY,bZ,cH,c5,dI,bX,cr,cZ,eo,c8,eQ,fW,hO,jJ,gw,lf,kM,lh,nq,Gr,WN,Xw,WM,Wq,Y4,abu,abN,aaL,abs,aa8,abz,abv,abU,abS,abh,aa2,abO,aa6,aa0,aaG,abX,_⟩,hI⟩:=hA_)
  ·exact ⟨hF_.set 0 rfl,hI⟩
  ·obtain rfl:=cj ‹_›
   refine aB ?_
   exact ⟨hF_.set 1 rfl,hI⟩
  ·obtain rfl:=ci ‹_›
   refine au fX ?_
   exact ⟨hF_.set 2 rfl,hI⟩
  ·obtain rfl:=bR ‹_›
   refine aN hI 0 jo rfl rfl ?_
   exact ⟨hF_.set 3 rfl,hI⟩
  ·exact ⟨hF_.set 4 rfl,hI⟩
  ·exact ⟨hF_.set 5 rfl,hI⟩
  ·obtain rfl:=bY ‹_›
   refine aB ?_
   exact ⟨hF_.set 6 rfl,hI⟩
  ·obtain rfl:=bZ ‹_›
   refine au fX ?_
   exact ⟨hF_.set 7 rfl,hI⟩
  ·obtain rfl:=cH ‹_›
   refine aN hI 0 jo rfl rfl ?_
   exact ⟨hF_.set 8 rfl,hI⟩
  ·obtain rfl:=c5 ‹_›
   refine eV ec ?_
   exact ⟨hF_.set 9 rfl,hI⟩
  ·obtain rfl:=bP ‹_›
   obtain rfl:=dI ‹_›
   refine QX (a:=p) (b:=ys.length) (by omega) rfl h0 ?_; rw [<- hd1]
   exact ⟨hF_.set 10 rfl,hI⟩
  ·obtain rfl:=ce ‹_›
   obtain rfl:=bX ‹_›
   refine aE ec hi1 ?_
   exact ⟨hF_.set 11 rfl,hI⟩
  ·obtain rfl:=cr ‹_›
   refine ct G3 ((hI.cellS hS).trans hv1) ?_
   exact ⟨hF_.set 12 rfl,hI⟩
  ·obtain rfl:=cZ ‹_›
   refine sJ gY fK (IntWalk.i64_in _ (by omega)) ?_
   exact ⟨hF_.set 13 rfl,hI⟩
  ·obtain rfl:=eo ‹_›
   refine H2 (by omega) ?_
   exact ⟨hF_.set 14 rfl,hI⟩
  ·exact ⟨hF_.set 15 rfl,hI⟩
  ·obtain rfl:=eQ ‹_›
   refine aB ?_
   exact ⟨hF_.set 16 rfl,hI⟩
  ·obtain rfl:=fW ‹_›
   refine au fX ?_
   exact ⟨hF_.set 17 rfl,hI⟩
  ·obtain rfl:=hO ‹_›
   refine aN hI 0 jo rfl rfl ?_
   exact ⟨hF_.set 18 rfl,hI⟩
  ·exact ⟨hF_.set 19 rfl,hI⟩
  ·obtain rfl:=gw ‹_›
   refine H2 (by omega) ?_
   exact ⟨hF_.set 20 rfl,hI⟩
  ·obtain rfl:=lf ‹_›
   refine bp (by omega) ?_
   exact ⟨hF_.set 21 rfl,hI⟩
  ·exact ⟨hF_.set 22 rfl,hI⟩
  ·obtain rfl:=lh ‹_›
   refine aB ?_
   exact ⟨hF_.set 23 rfl,hI⟩
  ·obtain rfl:=nq ‹_›
   refine au fX ?_
   exact ⟨hF_.set 24 rfl,hI⟩
  ·obtain rfl:=Gr ‹_›
   refine aN hI 0 jo rfl rfl ?_
   exact ⟨hF_.set 25 rfl,hI⟩
  ·obtain rfl:=WN ‹_›
   refine eV ec ?_
   exact ⟨hF_.set 26 rfl,hI⟩
  ·obtain rfl:=kM ‹_›
   obtain rfl:=Xw ‹_›
   refine QX (a:=p * 7+3) (b:=ys.length) (by omega) rfl h0 ?_; rw [<- hd2]
   exact ⟨hF_.set 27 rfl,hI⟩
  ·obtain rfl:=jJ ‹_›
   obtain rfl:=WM ‹_›
   refine aE ec hi2 ?_
   exact ⟨hF_.set 28 rfl,hI⟩
  ·obtain rfl:=Wq ‹_›
   refine ct G3 ((hI.cellS hS).trans hv2) ?_
   exact ⟨hF_.set 29 rfl,hI⟩
  ·obtain rfl:=Y4 ‹_›
   refine sJ gY fK (IntWalk.i64_in _ (by omega)) ?_
   exact ⟨hF_.set 30 rfl,hI⟩
  ·obtain rfl:=abu ‹_›
   refine H2 (by omega) ?_
   exact ⟨hF_.set 31 rfl,hI⟩
  ·obtain rfl:=c8 ‹_›
   obtain rfl:=abN ‹_›
   refine bp (by omega) ?_
   exact ⟨hF_.set 32 rfl,hI⟩
  ·exact ⟨hF_.set 33 rfl,hI⟩
  ·obtain rfl:=abs ‹_›
   refine H2 (by omega) ?_
   exact ⟨hF_.set 34 rfl,hI⟩
  ·obtain rfl:=aaL ‹_›
   obtain rfl:=aa8 ‹_›
   refine bp (by omega) ?_
   exact ⟨hF_.set 35 rfl,hI⟩
  ·exact ⟨hF_.set 36 rfl,hI⟩
  ·exact ⟨hF_.set 37 rfl,hI⟩
  ·obtain rfl:=abU ‹_›
   refine aB ?_
   exact ⟨hF_.set 38 rfl,hI⟩
  ·obtain rfl:=abS ‹_›
   refine au fX ?_
   exact ⟨hF_.set 39 rfl,hI⟩
  ·obtain rfl:=abh ‹_›
   refine aN hI 0 jo rfl rfl ?_
   exact ⟨hF_.set 40 rfl,hI⟩
  ·obtain rfl:=aa2 ‹_›
   refine eV ec ?_
   exact ⟨hF_.set 41 rfl,hI⟩
  ·obtain rfl:=abv ‹_›
   obtain rfl:=abO ‹_›
   refine Su (a:=p) (b:=ys.length) rfl rfl h0 (by omega) ?_; rw [<- hdq]
   exact ⟨hF_.set 42 rfl,hI⟩
  ·obtain rfl:=aa6 ‹_›
   refine H2 (by omega) ?_
   exact ⟨hF_.set 43 rfl,hI⟩
  ·obtain rfl:=abz ‹_›
   obtain rfl:=aa0 ‹_›
   refine bp (by omega) ?_
   exact ⟨hF_.set 44 rfl,hI⟩
  ·obtain rfl:=aaG ‹_›
   exact ⟨hF_.set 45 rfl,hI⟩
  obtain ⟨rfl,rfl,rfl,rfl,rfl,rfl,rfl,rfl,rfl,rfl,rfl,rfl,rfl,rfl,rfl,rfl,rfl,rfl,rfl,rfl,rfl,rfl,rfl,rfl,rfl,rfl,rfl,rfl,rfl,rfl,rfl,rfl,rfl,rfl,rfl,rfl,rfl,rfl,rfl,rfl,rfl,rfl,rfl,rfl,rfl,rfl,_⟩:=hF_.all
  clear hF_ cj ci bR ce bP bY bZ cH c5 dI bX cr cZ eo c8 eQ fW hO jJ gw lf kM lh nq Gr WN Xw WM Wq Y4 abu abN aaL abs aa8 abz abv abU abS abh aa2 abO aa6 aa0 aaG abX
  obtain ⟨x,hx⟩:∃ x:Nat,((((((y1:Nat):Int) * 131)+(((y2:Nat):Int) * 1117))+((p:Int) * 29))+(((q:Nat):Int) * 53))=(x:Int):=⟨(((((((y1:Nat):Int) * 131)+(((y2:Nat):Int) * 1117))+((p:Int) * 29))+(((q:Nat):Int) * 53))).toNat,by omega⟩
  have hx2:x<=10000000000000000:=by omega
  rw [hx]
  refine Su (a:=x) (b:=64) rfl rfl (by omega) (by omega) ?_
  refine aap (a:=x) (b:=x / 64) rfl rfl (by omega) (by omega) ?_
  refine RH hn ?_
  exact ⟨_,_,_,rfl,hI,Ext.refl _ _ _,rfl,rfl,_,un _ hn,rfl⟩
theorem pD {ys:List Nat} {ns:List Int} {S:ae} {sl v:Value} {br p:Nat} (h:RdSl S 1 mE sl ys) (hv:RdSl S 1 jz v ns) (h0:0<ns.length) (hp:p<=1000000000000) :
  Tri Tryz.prog IF [rdP br,v] [rdI br sl p] S fun r I' S'=>S'=S/\I'=[rdI br sl (p+1)]/\∃ n∈ns,r=.int .i64 n:=by
 intro w hI
 refine sU.2 ?_
 dsimp only[sU,aY]
 refine aF hv dd ?_
 refine Run.call (A:=[]) cP cO hI (eH h hp h0) fun v' I' S' w'=>?_
 rintro ⟨rfl,rfl,k,hk,rfl⟩ _ hI
 obtain ⟨b,o,cap,c,E,fz,rfl,hS,hR⟩:=hv.at_ hk
 refine aE dd hk ?_
 refine ct aG ((hI.cellS hS).trans (aH hR 0 _ rfl)) ?_
 exact ⟨_,_,_,rfl,hI,Ext.refl _ _ _,rfl,rfl,_,bz hk,rfl⟩
theorem zC {ys:List Nat} {ns:List ByteArray} {S:ae} {sl v:Value} {br p:Nat} (h:RdSl S 1 mE sl ys) (hv:RdSl S 1 zV v ns) (h0:0<ns.length) (hp:p<=1000000000000) :
  Tri Tryz.prog LL [rdP br,v] [rdI br sl p] S fun r I' S'=>S'=S/\I'=[rdI br sl (p+1)]/\∃ n∈ns,r=.string n:=by
 intro w hI
 refine vU.2 ?_
 dsimp only[vU,aY]
 refine aF hv cR ?_
 refine Run.call (A:=[]) cP cO hI (eH h hp h0) fun v' I' S' w'=>?_
 rintro ⟨rfl,rfl,k,hk,rfl⟩ _ hI
 obtain ⟨b,o,cap,c,E,fz,rfl,hS,hR⟩:=hv.at_ hk
 refine aE cR hk ?_
 refine ct aU ((hI.cellS hS).trans (aH hR 0 _ rfl)) ?_
 exact ⟨_,_,_,rfl,hI,Ext.refl _ _ _,rfl,rfl,_,bz hk,rfl⟩
theorem Rc {ys:List Nat} {S:ae} {v:Value} (h:RdSl S 1 mE v ys) :
  Tri Tryz.prog PK [v] [] S fun r I' S'=>S'=S/\∃ br sl ys',r=rdP br/\I'=[rdI br sl 0]/\RdSl S 1 mE sl ys':=by
 intro w hI
 refine zl.2 ?_
 dsimp only[zl,aM]
 refine ⟨fun t w'=>(∃ ys',RdSl S 1 mE t ys')/\Inv w [] [] S w',?_,?_⟩
 ·refine aF h ec ?_
  refine dA ?_
  refine aL (fun hgt=>?_) (fun _=>⟨⟨_,h⟩,hI⟩)
  obtain ⟨a,cap,rfl,hl,hc,hh⟩:=id h
  refine Bz (h:=2000) ec (by omega) ?_
  exact ⟨⟨_,RdSl.to h (by omega)⟩,hI⟩
 intro t0 _ _ _ _ _ w'
 rintro ⟨⟨ys',hr⟩,hI⟩
 obtain ⟨a,cap,rfl,_⟩:=id hr
 refine Run.of (v:=.agg #[.slice a ys'.length cap,.int .i64 0]) (w':=w') ?_ ?_
 ·unfold cB
  rw [Sem.run_bind,run_build w' Qf _ #[.slice a ys'.length cap,.int .i64 0] (by kernel_rfl),Result.andThen_ok]
  rfl
 refine bq hI fun br w' hI=>?_
 exact ⟨_,_,_,rfl,hI,Ext.refl _ _ _,rfl,br,_,ys',rfl,rfl,hr⟩
end
end
end Go.Proofs.YtgllldjiaglkcaaGreatDoor
