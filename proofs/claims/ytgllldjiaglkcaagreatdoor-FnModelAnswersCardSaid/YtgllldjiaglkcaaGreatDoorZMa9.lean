/- Texts read: spec.l1Struct, l1Chain, l2Read, l2Prime, l2Terms, l2Items. (printed by gen_read.py) -/
import Derived.Test.YtgllldjiaglkcaaGreatDoorZMa8
import Derived.Test.YtgllldjiaglkcaaGreatDoorZMa4
import Derived.Test.YtgllldjiaglkcaaGreatDoorZMa7
namespace Go.Proofs.YtgllldjiaglkcaaGreatDoor
section
open Go Go.RowKit
theorem YG {s:Bs} {i e:Nat} {t:T} (hn:Yd s i=some (t,e)):i<e/\e<=s.length:=by
 unfold Yd at hn
 obtain ⟨fr,hfr⟩:∃ fr,fr=if sgn s i 45=true then i+1 else i:=⟨_,rfl⟩
 simp only [<- hfr] at hn
 have hle:=NC s 4 fr
 have hfi:i<=fr/\fr<=i+1:=by rw [hfr]; split <;> omega
 split at hn
 ·cases hn
 rename_i hc
 simp only [not_or] at hc
 simp only [bg,cT] at hn
 obtain ⟨_,rfl⟩:=hn
 have h2:fr<vC s 4 fr:=by
  rcases NG fr (vC s 4 fr) with h|h
  ·exact h
  ·refine absurd ?_ hc.1
   rw [cut,jQ]
   rw [dK]
   omega
 have:=Gy (yo s 4 fr (vC s 4 fr - 1) (by omega) (by omega))
 omega
theorem iQ:∀ f:Nat,(∀ s i d l t n,kT f s i d l=some (t,n)->i<n/\n<=s.length)/\(∀ s i d l t0 t n,PY f s i d l t0=some (t,n)->i<=s.length->i<=n/\n<=s.length)/\
  (∀ s i d t n,wX f s i d=some (t,n)->i<n/\n<=s.length)/\(∀ s i d e o acc ts n,jE f s i d e o acc=some (ts,n)->i<n/\n<s.length)
 | 0=>⟨fun s i d l t n h=>by simp [kT] at h,fun s i d l t0 t n h=>by simp [PY] at h,fun s i d t n h=>by simp [wX] at h,fun s i d e o acc ts n h=>by simp [jE] at h⟩
 | f+1=>by
  obtain ⟨h1,h2,h3,h4⟩:=iQ f
  refine ⟨fun s i d l t n h=>?_,fun s i d l t0 t n h hi=>?_,fun s i d t n h=>?_,fun s i d e o acc ts n h=>?_⟩
  ·cases l with
   | zero=>rw [kT] at h; exact h3 _ _ _ _ _ h
   | succ l=>
    rw [kT] at h
    split at h
    ·cases h
    ·rename_i t' n' hr
     have a:=h1 _ _ _ _ _ _ hr
     have b:=h2 _ _ _ _ _ _ _ h a.2
     omega
  ·rw [PY] at h
   split at h
   ·simp only [bg,cT] at h
    omega
   ·rename_i name after ho
    have a:=Xy ho
    split at h
    ·split at h
     ·cases h
     ·rename_i r e hr
      have b:=h1 _ _ _ _ _ _ hr
      split at h
      ·simp only [bg,cT] at h
       omega
      ·have c:=h2 _ _ _ _ _ _ _ h b.2
       omega
    ·simp only [bg,cT] at h
     omega
  ·rw [wX] at h
   split at h
   ·cases h
   rename_i h0
   have h0:i<s.length:=by omega
   split at h
   ·split at h
    ·cases h
    ·rename_i t' n' hr
     have a:=h1 _ _ _ _ _ _ hr
     split at h
     ·rename_i hs
      have:=g8 hs
      simp only [bg,cT] at h
      omega
     ·cases h
   ·split at h
    ·split at h
     ·cases h
     ·rename_i ts n' hr
      have a:=h4 _ _ _ _ _ _ _ _ hr
      split at h
      ·simp only [bg,cT] at h
       omega
      ·split at h
       ·cases h
       ·rename_i t' e hr2
        have b:=h1 _ _ _ _ _ _ hr2
        split at h
        ·rename_i hs
         have:=g8 hs
         simp only [bg,cT] at h
         omega
        ·cases h
    ·split at h
     ·simp only [bg,cT] at h
      omega
     ·split at h
      ·exact YG h
      ·split at h
       ·cases h
       ·rename_i name n' hn
        have a:=pO h0 hn
        split at h
        ·simp only [bg,cT] at h
         omega
        ·split at h
         ·cases h
         ·rename_i ts e hr
          have b:=h4 _ _ _ _ _ _ _ _ hr
          simp only [bg,cT] at h
          omega
  ·rw [jE] at h
   split at h
   ·cases h
   ·rename_i t' n' hr
    have a:=h1 _ _ _ _ _ _ hr
    split at h
    ·rename_i hs
     have hlt:n'<s.length:=hs.elim g8 g8
     simp only [bg,cT] at h
     omega
    ·split at h
     ·have b:=h4 _ _ _ _ _ _ _ _ h
      omega
     ·cases h
abbrev acA (t:T):Value->List Item->af->Prop:=fun v I' S'=>I'=[]/\∃ cs,v=.agg cs.toArray/\RdT S' cs t
abbrev X6 (t:T) (n:Nat):Value->List Item->af->Prop:=fun v I' S'=>I'=[]/\∃ cs,v=.tuple #[.agg cs.toArray,.int .i64 (n:Int)]/\RdT S' cs t
abbrev Z8 (ts:List T) (n:Nat):Value->List Item->af->Prop:=fun v I' S'=>I'=[]/\∃ u,v=.tuple #[u,.int .i64 (n:Int)]/\RdSl S' 4 (RdT S') u ts
theorem kG (S:af):RdSl S 4 (RdT S) (.slice none 0 0) []:=⟨none,0,rfl,aR _,be _,.inl rfl⟩
theorem Ty {S:af} {b:Nat} {E:TypeId} {a c:T} {k1 n1 k2 n2:Int} {s1 s2:ByteArray} {v1 v2:Value} (hS:S b=some (.cells #[.int .i64 k1,.int .i64 n1,.string s1,v1,.int .i64 k2,.int .i64 n2,.string s2,v2] E))
  (h1:RdT S [.int .i64 k1,.int .i64 n1,.string s1,v1] a) (h2:RdT S [.int .i64 k2,.int .i64 n2,.string s2,v2] c):RdSl S 4 (RdT S) (.slice (some ⟨b,0,none⟩) 2 2) [a,c]:=by
 refine ⟨_,2,rfl,aR _,by simp [maxLen],.inr ⟨b,0,_,E,(0,0),rfl,hS,fun i hi=>?_⟩⟩
 match i,hi with
 | 0,_=>exact h1
 | 1,_=>exact h2
section
variable {w w0:World} {X:List Nat} {L:List Item} {S:af} {K:Value->World->Prop}
attribute [local irreducible] Run CondV aw aN
theorem eB {P:Program} {T:TypeId} {cx cy:Bool} {x y:Int} {a b:Nat} (hx:x=a) (hy:y=b) (hr:a+b<=1000000000000000) (hk:K (.int .i64 ((a+b:Nat):Int)) w):Run P (cN .add T cx cy (.int .i64 x) (.int .i64 y)) w K:=by
 subst hx hy
 refine bq (by omega) ?_
 rw [<- Int.natCast_add]
 exact hk
theorem BX {P:Program} {T:TypeId} {cx cy:Bool} {x y:Int} {a b:Nat} (hx:x=a) (hy:y=b) (hle:b<=a) (hr:a<=1000000000000000) (hk:K (.int .i64 ((a - b:Nat):Int)) w):Run P (cN .sub T cx cy (.int .i64 x) (.int .i64 y)) w K:=by
 subst hx hy
 refine mz (by omega) ?_
 rw [<- Int.ofNat_sub hle]
 exact hk
theorem oY {s:ByteArray} {v:Value} (hv:∃ p n m,v=.slice p n m) (hk:K (.agg #[.int .i64 3,.int .i64 0,.string s,v]) w):Run Tryz.prog (cU ac [(0,.int .i64 3),(2,.string s),(3,v)]) w K:=by
 obtain ⟨p,n,m,rfl⟩:=hv
 refine Run.of (v:=.agg #[.int .i64 3,.int .i64 0,.string s,.slice p n m]) (w':=w) ?_ hk
 unfold cU
 rw [Sem.run_bind,run_build w ac _ #[.int .i64 3,.int .i64 0,.string s,.slice p n m] (by kernel_rfl),Result.andThen_ok]
 rfl
theorem yC (s:ByteArray) {ks:List T} {u:Value} (h:RdSl S 4 (RdT S) u ks) (hk:ks.length<=1000000):Tri Tryz.prog y9 [.string s,u] [] S fun v I' S'=>S'=S/\∃ kv css,v=.agg #[.int .i64 3,.int .i64 0,.string s,kv]/\I'=[aJ kv ac 4 css]/\Rows 4 (RdT S) css ks:=by
 intro w hI
 refine wm.2 ?_
 dsimp only[wm,aZ]
 refine aV hI aY fun b4 w' hI=>?_
 refine eQ hI bj fun v0 w' hI=>?_
 have hI:Inv w [] [.blk b4 (.cells #[.int .i64 0,.int .i64 0,.string ⟨#[]⟩,.slice none 0 0] ac),aJ v0 ac 4 []] S w':=hI
 refine mt hI 1 (css:=[]) bj (by omega) rfl h (fun _ _=>RdT.length) (fun _ _=>RdT.one) (by simp; omega) (by omega) fun v' w' css2 hR hI=>?_
 have hI:Inv w [] [.blk b4 (.cells #[.int .i64 0,.int .i64 0,.string ⟨#[]⟩,.slice none 0 0] ac),aJ v' ac 4 css2] S w':=hI
 obtain ⟨a,n,c,rfl⟩:=hI.rowSlice 1 rfl
 refine oY ⟨_,_,_,rfl⟩ ?_
 refine aA hI 0 rfl ad rfl rfl (by simp [Value.oneCell']) fun w' hI=>?_
 refine bC hI 0 ad rfl rfl ?_
 exact ⟨_,_,_,rfl,hI.sub (iB _ _),Ext.refl _ _ _,rfl,_,css2,rfl,rfl,hR⟩
theorem eo (s:ByteArray) (hs:s.size<=maxLen) {ks:List T} {u:Value} (h:RdSl S 4 (RdT S) u ks) (hk:ks.length<=1000000):Tri Tryz.prog y9 [.string s,u] [] S (acA (.mk 3 0 s ks)):=by
 intro w hI
 refine (yC s h hk w hI).mono ?_
 rintro e w' ⟨v,I',S',rfl,hI,hE,rfl,kv,css,rfl,rfl,hR⟩
 obtain ⟨S1,hE1,hrd,hI⟩:=Inv.lendExt (A:=[]) hI
 have hrs:=RowRd.rows (hR.monoR fun _ _ h=>RdT.mono hE1.1 h) hrd
 exact ⟨_,[],S1,rfl,hI,hE.trans hE1,rfl,[.int .i64 3,.int .i64 0,.string s,kv],rfl,RdT.iff.2 ⟨kv,rfl,by simp [inI,T.kind],by simp [inI,T.n],hs,hrs⟩⟩
theorem R6 {ts:List T} {j:Nat} (h:j<ts.length) (t:T):ko (ts.drop j) t=Pb ts[j] (ko (ts.drop (j+1)) t):=by
 rw [cZ h,ko]
theorem vP {ts:List T} {t:T} {u:Value} {cs:List Value} (h:RdSl S 4 (RdT S) u ts) (ht:RdT S cs t) (hl:ts.length<=1000000):Tri Tryz.prog O6 [u,.agg cs.toArray] [] S (acA (ko ts t)):=by
 intro w hI
 obtain ⟨kv,rfl,g1,g2,g3,g4⟩:=RdT.iff.1 ht
 obtain ⟨ka,kn,kc,hkv⟩:∃ a n m,kv=.slice a n m:=by
  obtain ⟨a,m,e,_⟩:=g4
  exact ⟨_,_,_,e⟩
 refine yU.2 ?_
 dsimp only[yU,aZ]
 refine bt hI fun b3 w' hI=>?_
 refine aV hI aY fun b4 w' hI=>?_
 refine ar hI 0 ad rfl rfl ?_
 refine aV hI aY fun b5 w' hI=>?_
 refine aA hI 2 rfl ad rfl rfl (by simp [Value.oneCell',Value.cells,hkv]) fun w' hI=>?_
 refine aC h ae ?_
 refine mz (by omega) ?_
 obtain ⟨B3,hB3⟩:∃ B3,B3=Item.blk b3 (.cells #[.int .i64 t.kind,.int .i64 t.n,.string t.name,kv] ac):=⟨_,rfl⟩
 have hI:Inv w [] [B3,.blk b4 (.cells #[.int .i64 0,.int .i64 0,.string ⟨#[]⟩,.slice none 0 0] ac),.blk b5 (.cells #[.int .i64 t.kind,.int .i64 t.n,.string t.name,kv] ac)] S w':=by rw [hB3]; exact hI
 refine ⟨fun i w'=>∃ (j:Nat) (S1:af) (ds:List Value),j<=ts.length/\i=.int .i64 ((j:Int) - 1)/\Ext w.heap.size [] S S1/\RdT S1 ds (ko (ts.drop j) t)/\Inv w [] [B3,.blk b4 (.cells #[.int .i64 0,.int .i64 0,.string ⟨#[]⟩,.slice none 0 0] ac),.blk b5 (.cells ds.toArray ac)] S1 w',
  fun i _=>(intOf i+1).toNat,⟨ts.length,S,_,aR _,rfl,Ext.refl _ _ _,by rw [dL]; exact ht,hI⟩,?_⟩
 intro t6 _ _ t21 t20 t19 t18 t17 t16 t15 _ _ w'
 rintro ⟨j,S1,ds,hj,rfl,hE,hds,hI⟩
 by_cases hj0:j=0
 ·subst hj0
  refine tO (by omega) ?_
  refine az (fun hb=>by cases hb) (fun _=>?_)
  obtain ⟨kv',rfl,_,_,_,a,m,rfl,_⟩:=RdT.iff.1 hds
  refine ar hI 2 ad rfl rfl ?_
  refine aA hI 1 rfl ad rfl rfl (by simp [Value.oneCell']) fun w' hI=>?_
  refine bC hI 1 ad rfl rfl ?_
  exact ⟨_,_,_,rfl,hI.nil,hE,rfl,_,rfl,hds⟩
 ·refine o9 (by omega) ?_
  refine az (fun _=>?_) (fun hb=>by cases hb)
  obtain ⟨m,rfl⟩:∃ m,j=m+1:=⟨j - 1,by omega⟩
  have hm:m<ts.length:=by omega
  have ej:((m+1:Nat):Int) - 1=(m:Int):=by omega
  rw [ej]
  obtain ⟨b,o,cap,c,E,fz,rfl,hS,hR⟩:=(h.monoT hE.1).at_ hm
  obtain ⟨ka',hca,_,_,_,aa,am,hka',_⟩:=RdT.iff.1 hR
  subst hka'
  obtain ⟨kd,rfl,_,_,_,da,dm,rfl,_⟩:=RdT.iff.1 hds
  obtain ⟨o1,ho1⟩:∃ o1,o1=ko (ts.drop (m+1)) t:=⟨_,rfl⟩
  rw [<- ho1] at hds hI
  obtain ⟨a1,ha1⟩:∃ a1,a1=ts[m]:=⟨_,rfl⟩
  rw [<- ha1] at hR hca
  skip
  refine ⟨fun D sv nj lS rK jY l5 sQ w_=>Fx D 0 [sQ=.slice (some ⟨b,o,none⟩) ts.length cap,l5=.int .i64 (m:Int),jY=.pointer (some ⟨b,o+m * 4,none⟩),rK=.agg #[.int .i64 a1.kind,.int .i64 a1.n,.string a1.name,.slice aa a1.kids.length am],lS=.agg #[.int .i64 o1.kind,.int .i64 o1.n,.string o1.name,.slice da o1.kids.length dm],True,True,True]/\∃ S2 c6,Ext w.heap.size [] S1 S2/\(D 5=true->RdSl S2 4 (RdT S2) nj [a1,o1])/\(D 6=true->sv=.agg c6.toArray/\RdT S2 c6 (Pb a1 o1))/\(D 7=true->D 6=true)/\(D 6=true->D 5=true)/\(D 5=true->D 4=true)/\Inv w [] [B3,.blk b4 (.cells #[.int .i64 0,.int .i64 0,.string ⟨#[]⟩,.slice none 0 0] ac),.blk b5 (.cells (match D 7 with|true=>c6.toArray|false=>#[.int .i64 o1.kind,.int .i64 o1.n,.string o1.name,.slice da o1.kids.length dm]) ac)] S2 w_,⟨Fx.nil _ _,⟨S1,[],Ext.refl _ _ _,ba,ba,ba,ba,ba,hI.draw⟩⟩,⟨?_,?_,?_,?_,?_,?_,?_,?_,trivial⟩,?_⟩
  all_goals (intro D bP; intros; rename_i sv nj lS rK jY l5 sQ w_ hA_; have hF_:=hA_.1; obtain ⟨⟨cm,cj,cd,ci,bT,ct,bZ,cR,_⟩,⟨S2,c6,hE2,e5,e6,k7,k6,k5,hI⟩⟩:=hA_)
  ·exact ⟨hF_.set 0 rfl,⟨S2,c6,hE2,e5,e6,k7,k6,k5,hI⟩⟩
  ·exact ⟨hF_.set 1 rfl,⟨S2,c6,hE2,e5,e6,k7,k6,k5,hI⟩⟩
  ·obtain rfl:=cm ‹_›
   obtain rfl:=cj ‹_›
   refine aD ae hm ?_
   exact ⟨hF_.set 2 rfl,⟨S2,c6,hE2,e5,e6,k7,k6,k5,hI⟩⟩
  ·obtain rfl:=cd ‹_›
   refine bK (cs:=[.int .i64 a1.kind,.int .i64 a1.n,.string a1.name,.slice aa a1.kids.length am]) ad rfl (fun j v hj=>by rw [hI.cellS (hE2.1 _ _ hS)]; exact aK hca j v hj) ?_
   exact ⟨hF_.set 3 rfl,⟨S2,c6,hE2,e5,e6,k7,k6,k5,hI⟩⟩
  ·have f5:D 5=false:=bH.2 fun h=>by rw [k5 h] at bP; cases bP
   have f6:D 6=false:=bH.2 fun h=>by rw [k6 h] at f5; cases f5
   have f7:D 7=false:=bH.2 fun h=>by rw [k7 h] at f6; cases f6
   have hI0:=hI
   rw [f7] at hI
   refine ar hI 2 ad rfl rfl ?_
   have hI:=hI0
   have k5:=fun (_:aF D 4 5=true)=>(rfl:aF D 4 4=true)
   exact ⟨hF_.set 4 rfl,⟨S2,c6,hE2,e5,e6,k7,k6,k5,hI⟩⟩
  ·obtain rfl:=ci ‹_›
   obtain rfl:=bT ‹_›
   have f6:D 6=false:=bH.2 fun h=>by rw [k6 h] at bP; cases bP
   have f7:D 7=false:=bH.2 fun h=>by rw [k7 h] at f6; cases f6
   rw [f7] at hI
   refine xK (v:=fun b=>.slice (some ⟨b,0,none⟩) 2 2) (o:=.cells #[.int .i64 a1.kind,.int .i64 a1.n,.string a1.name,.slice aa a1.kids.length am,.int .i64 o1.kind,.int .i64 o1.n,.string o1.name,.slice da o1.kids.length dm] ac) hI (by kernel_rfl) fun b20 w_ hI=>?_
   obtain ⟨S2,hI,hE3,hS3⟩:=Inv.pub1 (A:=[_,_,_]) hI
   have hE2:=hE2.trans hE3
   have hR':RdT S2 [.int .i64 a1.kind,.int .i64 a1.n,.string a1.name,.slice aa a1.kids.length am] a1:=by
    have:=RdT.mono hE2.1 hR
    rwa [hca] at this
   have e5:=fun (_:aF D 5 5=true)=>Ty hS3 hR' (RdT.mono hE2.1 hds)
   have e6:=fun (h:D 6=true)=>(absurd h (by rw [f6]; decide):sv=.agg c6.toArray/\RdT S2 c6 (Pb a1 o1))
   have k6:=fun (_:aF D 5 6=true)=>(rfl:aF D 5 5=true)
   have k5:=fun (_:aF D 5 5=true)=>‹D 4=true›
   have hI:Inv w [] [B3,.blk b4 (.cells #[.int .i64 0,.int .i64 0,.string ⟨#[]⟩,.slice none 0 0] ac),.blk b5 (.cells (match D 7 with|true=>c6.toArray|false=>#[.int .i64 o1.kind,.int .i64 o1.n,.string o1.name,.slice da o1.kids.length dm]) ac)] S2 w_:=by
    rw [f7]
    exact hI
   exact ⟨hF_.set 5 (by first|assumption|trivial),⟨S2,c6,hE2,e5,e6,k7,k6,k5,hI⟩⟩
  ·have VA:=ct ‹_›
   have f7:D 7=false:=bH.2 fun h=>by rw [k7 h] at bP; cases bP
   rw [f7] at hI
   refine Run.call0E dv dw hI (eo ⟨#[46]⟩ (by decide +kernel) (e5 ‹D 5=true›) (by simp)) fun v' I' S2 w_=>?_
   rintro ⟨rfl,c6,rfl,hc6⟩ hE3 hI
   have hE2:=hE2.trans hE3
   have e5:=fun (h:D 5=true)=>(e5 h).monoT hE3.1
   have e6:aF D 6 6=true->Value.agg c6.toArray=Value.agg c6.toArray/\RdT S2 c6 (Pb a1 o1):=fun _=>⟨rfl,hc6⟩
   have k7:=fun (_:aF D 6 7=true)=>(rfl:aF D 6 6=true)
   have k6:=fun (_:aF D 6 6=true)=>‹D 5=true›
   have hI:Inv w [] [B3,.blk b4 (.cells #[.int .i64 0,.int .i64 0,.string ⟨#[]⟩,.slice none 0 0] ac),.blk b5 (.cells (match D 7 with|true=>c6.toArray|false=>#[.int .i64 o1.kind,.int .i64 o1.n,.string o1.name,.slice da o1.kids.length dm]) ac)] S2 w_:=by
    rw [f7]
    exact hI
   exact ⟨hF_.set 6 (by first|assumption|trivial),⟨S2,c6,hE2,e5,e6,k7,k6,k5,hI⟩⟩
  ·have Q4:=bZ ‹_›
   obtain ⟨q6,hc6⟩:=e6 ‹D 6=true›
   subst q6
   rw [bP] at hI
   have hone:=hc6.one
   have hlen:=hc6.length
   refine aA hI 2 rfl ad (by simpa using hlen) rfl (by simpa using hone) fun w_ hI=>?_
   have k7:=fun (_:aF D 7 7=true)=>‹D 6=true›
   exact ⟨hF_.set 7 trivial,⟨S2,c6,hE2,e5,e6,k7,k6,k5,hI⟩⟩
  obtain ⟨rfl,rfl,rfl,rfl,rfl,VA,Q4,_,_⟩:=hF_.all
  have TH:D 6=true:=by assumption
  have EA:D 7=true:=by assumption
  clear hF_ cm cj cd ci bT ct bZ cR
  rw [EA] at hI
  obtain ⟨_,hc6⟩:=e6 TH
  refine mz (by omega) ?_
  refine ⟨⟨m,S2,c6,by omega,rfl,hE.trans hE2,?_,hI⟩,by simp [intOf]⟩
  rw [R6 hm,<- ha1,<- ho1]
  exact hc6
end
def sV (f:Nat):Prop:=∀ (s:Bs) (i d l:Nat) (t:T) (n:Nat) (S:af),kT f s i d l=some (t,n)->s.length<=100000->i<=s.length->d<=100->l<=3->
 Tri Tryz.prog RV [.string (st s),.int .i64 (i:Int),.int .i64 (d:Int),.int .i64 (l:Int)] [] S (X6 t n)
def L6 (f:Nat):Prop:=∀ (s:Bs) (i d:Nat) (t:T) (n:Nat) (S:af),wX f s i d=some (t,n)->s.length<=100000->i<=s.length->d<=100->
 Tri Tryz.prog Qz [.string (st s),.int .i64 (i:Int),.int .i64 (d:Int)] [] S (X6 t n)
def yb (f:Nat):Prop:=∀ (s:Bs) (i d e o:Nat) (ts:List T) (n:Nat) (S:af),jE f s i d e o []=some (ts,n)->s.length<=100000->i<=s.length->d<=100->
 Tri Tryz.prog Pm [.string (st s),.int .i64 (i:Int),.int .i64 (d:Int),.int .u8 (e:Int),.int .u8 (o:Int)] [] S (Z8 ts n)
theorem KB:∀ (f:Nat) (s:Bs) (i d e o:Nat) (acc ts:List T) (n:Nat),jE f s i d e o acc=some (ts,n)->ts.length+i<=acc.length+n
 | 0,s,i,d,e,o,acc,ts,n,h=>by simp [jE] at h
 | f+1,s,i,d,e,o,acc,ts,n,h=>by
  rw [jE] at h
  split at h
  ·cases h
  ·rename_i t' n' hr
   have a:=(iQ f).1 _ _ _ _ _ _ hr
   split at h
   ·simp only [bg,cT] at h
    obtain ⟨rfl,rfl⟩:=h
    rw [bx]
    simp only [bu,bQ]
    omega
   ·split at h
    ·have b:=KB f _ _ _ _ _ _ _ _ h
     rw [bx] at b
     simp only [bu,bQ] at b
     omega
    ·cases h
section
attribute [local irreducible] Run CondV aw aN
theorem W8 {f:Nat} (ih:∀ g,g<f->sV g):yb f:=by
 intro s i d e o ts n S h hs hi hd w hI
 refine As.2 ?_
 dsimp only[As,r3]
 refine eQ hI bj fun v0 w' hI=>?_
 refine ⟨fun a b w'=>∃ (f' i':Nat) (acc:List T) (S1:af) (css:List (List Value)),f'<=f/\a=.int .i64 (i':Int)/\i<=i'/\i'<=s.length/\acc.length+i<=i'/\jE f' s i' d e o acc=some (ts,n)/\Ext w.heap.size [] S S1/\Rows 4 (RdT S1) css acc/\Inv w [] [aJ b ac 4 css] S1 w',
  fun a _ _=>s.length+1 - (intOf a).toNat,⟨f,i,[],S,[],aR _,rfl,aR _,hi,by simp,h,Ext.refl _ _ _,Rows.nil _ _,hI⟩,?_⟩
 intro t1 _ _ _ _ _ _ _ _ _ _ _ _ _ _ _ _ _ _ _ _ t12 _ _ _ _ _ _ _ _ _ _ _ _ _ _ _ _ _ _ w'
 rintro ⟨f',i',acc,S1,css,hf',rfl,hi1,hi2,hacc,hT,hE,hR,hI⟩
 have hcl:=hR.hc
 cases f' with
 | zero=>simp [jE] at hT
 | succ g=>
 rw [jE] at hT
 split at hT
 ·cases hT
 rename_i t n' hr
 have hle:=(iQ g).1 _ _ _ _ _ _ hr
 refine Run.call0E gP gV hI (ih g (by omega) s i' d 3 t n' S1 hr hs hi2 hd (by omega)) fun v I' S2 w'=>?_
 rintro ⟨rfl,cs,rfl,hcs⟩ hE2 hI
 have hR2:=hR.monoR fun _ _ h=>RdT.mono hE2.1 h
 obtain ⟨kv,rfl,_,_,_,a,m,rfl,_⟩:=RdT.iff.1 hcs
 refine aq (v:=.agg _) rfl ?_
 refine aq (v:=.int .i64 (n':Int)) rfl ?_
 refine aV hI aY fun b13 w' hI=>?_
 refine aA hI 1 rfl ad rfl rfl (by simp [Value.oneCell']) fun w' hI=>?_
 refine eT (by omega) ?_
 refine az (fun hb=>by cases hb) (fun _=>?_)
 refine ar hI 1 ad rfl rfl ?_
 refine dD (css:=css) hI 0 _ bj (by omega) (by omega) rfl hcs.length hcs.one (by omega) (by omega) fun v' w' hI=>?_
 have hI:Inv w [] [aJ v' ac 4 (css++[[.int .i64 t.kind,.int .i64 t.n,.string t.name,.slice a t.kids.length m]])] S2 w':=hI.pick [true,false]
 have hR3:=hR2.snoc hcs hcs.length
 refine ⟨fun b w'=>b=.bool (sgn s n' e || sgn s n' o)/\Inv w [] [aJ v' ac 4 (css++[[.int .i64 t.kind,.int .i64 t.n,.string t.name,.slice a t.kids.length m]])] S2 w',?_,?_⟩
 ·refine Run.callPure cP cQ hI (cC s n' e S2) fun w' hI=>?_
  cases he:sgn s n' e
  ·refine rpG ?_
   refine Run.callPure cP cQ hI (cC s n' o S2) fun w' hI=>?_
   refine rpG ?_
   exact ⟨by simp,hI⟩
  ·refine rpG ?_
   exact ⟨by simp,hI⟩
 intro t39 _ _ _ _ _ _ _ _ _ w'
 rintro ⟨rfl,hI⟩
 refine az (fun hb=>?_) (fun hb=>?_)
 ·rw [jC] at hb
  rw [ai hb] at hT
  simp only [bg,cT] at hT
  obtain ⟨rfl,rfl⟩:=hT
  obtain ⟨S3,hE3,hrd,hI⟩:=Inv.lendExt (A:=[]) hI
  have hrs:=RowRd.rows (hR3.monoR fun _ _ h=>RdT.mono hE3.1 h) hrd
  exact ⟨_,[],S3,rfl,hI,(hE.trans hE2).trans hE3,rfl,_,rfl,hrs⟩
 ·have hb':¬ (sgn s n' e=true ∨ sgn s n' o=true):=fun h=>by rw [<- jC,hb] at h; cases h
  rw [ah hb'] at hT
  split at hT
  ·rename_i h44
   refine Run.callPure cP cQ hI (cC s n' 44 S2) fun w' hI=>?_
   refine bX ?_
   rw [h44]
   refine az (fun hb=>by cases hb) (fun _=>?_)
   have:=g8 h44
   refine eB (a:=n') (b:=1) rfl rfl (by omega) ?_
   refine ⟨⟨g,n'+1,acc++[t],S2,css++[[.int .i64 t.kind,.int .i64 t.n,.string t.name,.slice a t.kids.length m]],by omega,rfl,by omega,by omega,?_,hT,hE.trans hE2,hR3,hI⟩,?_⟩
   ·rw [bx]; simp only [bu,bQ]; omega
   ·simp only [intOf,cV]; omega
  ·cases hT
theorem O3 {g:Nat} (hT:yb g) (hR:sV g) {s:Bs} {i d:Nat} {ts:List T} {n:Nat} {t:T} {e:Nat} (h1:jE g s i d 93 124 []=some (ts,n))
  (h2:(sgn s n 93=true/\t=ko ts aaw/\e=n+1) ∨ (sgn s n 93=false/\∃ u m,kT g s (n+1) d 3=some (u,m)/\sgn s m 93=true/\t=ko ts u/\e=m+1))
  (hs:s.length<=100000) (hi:i<=s.length) (hd:d<=100) (S:af):Tri Tryz.prog P2 [.string (st s),.int .i64 (i:Int),.int .i64 (d:Int)] [] S (X6 t e):=by
 intro w hI
 have hle:=(iQ g).2.2.2 _ _ _ _ _ _ _ _ h1
 have hln:=KB _ _ _ _ _ _ _ _ _ h1
 simp only [bQ] at hln
 refine zU.2 ?_
 dsimp only[zU,dV]
 refine aV hI aY fun b6 w' hI=>?_
 refine Run.call0E zB AJ hI (hT s i d 93 124 ts n S h1 hs hi hd) fun v I' S1 w'=>?_
 rintro ⟨rfl,u,rfl,hu⟩ hE1 hI
 have hI:Inv w [] [.blk b6 (.cells #[.int .i64 0,.int .i64 0,.string ⟨#[]⟩,.slice none 0 0] ac)] S1 w':=hI
 refine aq (v:=u) rfl ?_
 refine aq (v:=.int .i64 (n:Int)) rfl ?_
 refine eT (by omega) ?_
 refine az (fun hb=>by cases hb) (fun _=>?_)
 refine Run.callPure cP cQ hI (cC s n 93 S1) fun w' hI=>?_
 rcases h2 with ⟨h3,rfl,rfl⟩|⟨h3,x,m,h4,h5,rfl,rfl⟩
 ·rw [h3]
  refine az (fun _=>?_) (fun hb=>by cases hb)
  refine Run.call0E dv dw hI (eo ⟨#[91,93]⟩ (by decide +kernel) (kG S1) (by simp)) fun v I' S2 w'=>?_
  rintro ⟨rfl,cs,rfl,hcs⟩ hE2 hI
  refine Run.call0E Ae yE hI (vP (hu.monoT hE2.1) hcs (by omega)) fun v I' S3 w'=>?_
  rintro ⟨rfl,ds,rfl,hds⟩ hE3 hI
  refine eB (a:=n) (b:=1) rfl rfl (by omega) ?_
  obtain ⟨kv,rfl,_,_,_,a,k,rfl,_⟩:=RdT.iff.1 hds
  refine aA hI 0 rfl ad rfl rfl (by simp [Value.oneCell']) fun w' hI=>?_
  refine bC hI 0 ad rfl rfl ?_
  exact ⟨_,[],S3,rfl,hI.nil,(hE1.trans hE2).trans hE3,rfl,_,rfl,hds⟩
 ·rw [h3]
  refine az (fun hb=>by cases hb) (fun _=>?_)
  refine eB (a:=n) (b:=1) rfl rfl (by omega) ?_
  have hle2:=(iQ g).1 _ _ _ _ _ _ h4
  refine Run.call0E gP gV hI (hR s (n+1) d 3 x m S1 h4 hs (by omega) hd (by omega)) fun v I' S2 w'=>?_
  rintro ⟨rfl,cs,rfl,hcs⟩ hE2 hI
  obtain ⟨kv,rfl,_,_,_,a,k,rfl,_⟩:=RdT.iff.1 hcs
  refine aq (v:=.agg _) rfl ?_
  refine aq (v:=.int .i64 (m:Int)) rfl ?_
  refine aV hI aY fun b10 w' hI=>?_
  refine aA hI 1 rfl ad rfl rfl (by simp [Value.oneCell']) fun w' hI=>?_
  refine eT (by omega) ?_
  refine az (fun hb=>by cases hb) (fun _=>?_)
  refine Run.callPure cP cQ hI (cC s m 93 S2) fun w' hI=>?_
  refine bX ?_
  rw [h5]
  refine az (fun hb=>by cases hb) (fun _=>?_)
  refine ar hI 1 ad rfl rfl ?_
  refine Run.call0E Ae yE hI (vP (hu.monoT hE2.1) hcs (by omega)) fun v I' S3 w'=>?_
  rintro ⟨rfl,ds,rfl,hds⟩ hE3 hI
  refine eB (a:=m) (b:=1) rfl rfl (by omega) ?_
  obtain ⟨kv,rfl,_,_,_,a,k,rfl,_⟩:=RdT.iff.1 hds
  refine aA hI 0 rfl ad rfl rfl (by simp [Value.oneCell']) fun w' hI=>?_
  refine bC hI 0 ad rfl rfl ?_
  exact ⟨_,[],S3,rfl,hI.nil,(hE1.trans hE2).trans hE3,rfl,_,rfl,hds⟩
theorem zw {n:Bs} (h:n.length<=6):(st n).size<=maxLen:=by rw [oh]; simp only [maxLen]; omega
theorem XG {f:Nat} (ihR:∀ g,g<f->sV g) (ihT:∀ g,g<f->yb g):L6 f:=by
 intro s i d t n S h hs hi hd w hI
 cases f with
 | zero=>simp [wX] at h
 | succ g=>
 have hR:=ihR g (by omega)
 have hT:=ihT g (by omega)
 have hle:=(iQ (g+1)).2.2.1 _ _ _ _ _ h
 rw [wX] at h
 split at h
 ·cases h
 rename_i h0
 have hd0:1<=d:=by omega
 have hlt:i<s.length:=by omega
 refine zi.2 ?_
 dsimp only[zi,dV]
 refine aV hI aY fun b6 w' hI=>?_
 have hI:Inv w [] [.blk b6 (.cells #[.int .i64 0,.int .i64 0,.string ⟨#[]⟩,.slice none 0 0] ac)] S w':=hI
 refine ⟨fun b w'=>b=.bool false/\Inv w [] [.blk b6 (.cells #[.int .i64 0,.int .i64 0,.string ⟨#[]⟩,.slice none 0 0] ac)] S w',?_,?_⟩
 ·refine eT (by omega) ?_
  refine rpG ?_
  refine fR aU ?_
  refine tO (by omega) ?_
  refine rpG ?_
  exact ⟨rfl,hI⟩
 intro t23 _ _ _ _ _ _ _ w'
 rintro ⟨rfl,hI⟩
 refine az (fun hb=>by cases hb) (fun _=>?_)
 refine dZ aU hlt ?_
 split at h
 ·rename_i h40
  rw [jh hlt,bk] at h40
  refine gk (by omega) ?_
  refine az (fun _=>?_) (fun hb=>by cases hb)
  split at h
  ·cases h
  rename_i u m hr
  split at h
  ·rename_i h41
   simp only [bg,cT] at h
   obtain ⟨rfl,rfl⟩:=h
   have hle2:=(iQ g).1 _ _ _ _ _ _ hr
   refine eB (a:=i) (b:=1) rfl rfl (by omega) ?_
   refine Run.call0E gP gV hI (hR s (i+1) d 3 u m S hr hs (by omega) hd (by omega)) fun v I' S2 w'=>?_
   rintro ⟨rfl,cs,rfl,hcs⟩ hE2 hI
   obtain ⟨kv,rfl,_,_,_,a,k,rfl,_⟩:=RdT.iff.1 hcs
   refine aq (v:=.agg _) rfl ?_
   refine aq (v:=.int .i64 (m:Int)) rfl ?_
   refine aV hI aY fun b8 w' hI=>?_
   refine aA hI 1 rfl ad rfl rfl (by simp [Value.oneCell']) fun w' hI=>?_
   refine eT (by omega) ?_
   refine az (fun hb=>by cases hb) (fun _=>?_)
   refine Run.callPure cP cQ hI (cC s m 41 S2) fun w' hI=>?_
   refine bX ?_
   rw [h41]
   refine az (fun hb=>by cases hb) (fun _=>?_)
   refine ar hI 1 ad rfl rfl ?_
   refine eB (a:=m) (b:=1) rfl rfl (by omega) ?_
   refine aA hI 0 rfl ad rfl rfl (by simp [Value.oneCell']) fun w' hI=>?_
   refine bC hI 0 ad rfl rfl ?_
   exact ⟨_,[],S2,rfl,hI.nil,hE2,rfl,_,rfl,hcs⟩
  ·cases h
 rename_i h40
 rw [jh hlt,bk] at h40
 refine ew (by omega) ?_
 refine az (fun hb=>by cases hb) (fun _=>?_)
 refine ⟨fun b w'=>b=.bool (sgn s i 91 && !sgn s (i+1) 93)/\Inv w [] [.blk b6 (.cells #[.int .i64 0,.int .i64 0,.string ⟨#[]⟩,.slice none 0 0] ac)] S w',?_,?_⟩
 ·refine dZ aU hlt ?_
  by_cases h91:s[i].toNat=91
  ·refine gk (by omega) ?_
   refine rpG ?_
   refine eB (a:=i) (b:=1) rfl rfl (by omega) ?_
   refine Run.callPure cP cQ hI (cC s (i+1) 93 S) fun w' hI=>?_
   refine bX ?_
   refine rpG ?_
   exact ⟨by rw [jh hlt,aM h91,dM],hI⟩
  ·refine ew (by omega) ?_
   refine rpG ?_
   exact ⟨by rw [jh hlt,aW h91,g6],hI⟩
 intro t65 _ _ _ _ _ _ _ _ _ _ w'
 rintro ⟨rfl,hI⟩
 split at h
 ·rename_i h91
  rw [h91.1,h91.2]
  refine az (fun _=>?_) (fun hb=>by cases hb)
  split at h
  ·cases h
  rename_i ts m hts
  have h2:(sgn s m 93=true/\t=ko ts aaw/\n=m+1) ∨ (sgn s m 93=false/\∃ u k,kT g s (m+1) (d - 1) 3=some (u,k)/\sgn s k 93=true/\t=ko ts u/\n=k+1):=by
   split at h
   ·rename_i h3
    simp only [bg,cT] at h
    exact .inl ⟨h3,h.1.symm,h.2.symm⟩
   ·rename_i h3
    split at h
    ·cases h
    rename_i u k hr
    split at h
    ·rename_i h4
     simp only [bg,cT] at h
     exact .inr ⟨bH.2 h3,u,k,hr,h4,h.1.symm,h.2.symm⟩
    ·cases h
  refine eB (a:=i) (b:=1) rfl rfl (by omega) ?_
  refine BX (a:=d) (b:=1) rfl rfl hd0 (by omega) ?_
  refine Run.call0E Ms Na hI (O3 hT hR hts h2 hs (by omega) (by omega) S) fun v I' S2 w'=>?_
  rintro ⟨rfl,cs,rfl,hcs⟩ hE2 hI
  obtain ⟨kv,rfl,_,_,_,a,k,rfl,_⟩:=RdT.iff.1 hcs
  refine aq (v:=.agg _) rfl ?_
  refine aq (v:=.int .i64 (n:Int)) rfl ?_
  refine aA hI 0 rfl ad rfl rfl (by simp [Value.oneCell']) fun w' hI=>?_
  refine bC hI 0 ad rfl rfl ?_
  exact ⟨_,[],S2,rfl,hI.nil,hE2,rfl,_,rfl,hcs⟩
 rename_i h91
 have e91:(sgn s i 91 && !sgn s (i+1) 93)=false:=by
  cases h5:sgn s i 91
  ·rfl
  ·cases h6:sgn s (i+1) 93
   ·exact absurd ⟨h5,h6⟩ h91
   ·rfl
 rw [e91]
 refine az (fun hb=>by cases hb) (fun _=>?_)
 refine ⟨fun b w'=>b=.bool (upp s i)/\Inv w [] [.blk b6 (.cells #[.int .i64 0,.int .i64 0,.string ⟨#[]⟩,.slice none 0 0] ac)] S w',?_,?_⟩
 ·refine dZ aU hlt ?_
  by_cases h65:65<=s[i].toNat
  ·refine o9 (by omega) ?_
   refine rpG ?_
   refine dZ aU hlt ?_
   refine fU ?_
   refine rpG ?_
   refine ⟨?_,hI⟩
   rw [upp,lo hlt,aM h65,dM]
   congr 1
   rw [fK]
   omega
  ·refine tO (by omega) ?_
   refine rpG ?_
   exact ⟨by rw [upp,lo hlt,aW h65,g6],hI⟩
 intro t83 _ _ _ _ _ _ _ _ _ w'
 rintro ⟨rfl,hI⟩
 split at h
 ·rename_i hup
  simp only [bg,cT] at h
  obtain ⟨rfl,rfl⟩:=h
  rw [hup]
  rw [upp,lo hlt,bw,bk,bk] at hup
  refine az (fun _=>?_) (fun hb=>by cases hb)
  refine dZ aU hlt ?_
  refine Tz (c:=(s[i].toNat:Int) - 65) (IntWalk.u8_in _ (by omega)) ?_
  refine qz gq fQ (IntWalk.i64_in _ (by omega)) ?_
  refine Run.callPure xM xW hI (o8 _ S) fun w' hI=>?_
  refine eB (a:=i) (b:=1) rfl rfl (by omega) ?_
  refine aA hI 0 rfl ad rfl rfl (by simp [Value.oneCell']) fun w' hI=>?_
  refine bC hI 0 ad rfl rfl ?_
  have eg:((s.getD i 0).toNat:Int) - 65=(s[i].toNat:Int) - 65:=by rw [wF,fT hlt]; rfl
  rw [eg]
  exact ⟨_,[],S,rfl,hI.nil,Ext.refl _ _ _,rfl,_,rfl,RdT.nil (by simp [inI]) (by unfold inI; omega) (by decide +kernel) (be _)⟩
 rename_i hup
 rw [bH.2 hup]
 refine az (fun hb=>by cases hb) (fun _=>?_)
 refine ⟨fun b w'=>b=.bool (dig s i || (sgn s i 45 && dig s (i+1)))/\Inv w [] [.blk b6 (.cells #[.int .i64 0,.int .i64 0,.string ⟨#[]⟩,.slice none 0 0] ac)] S w',?_,?_⟩
 ·refine Run.callPure im ia hI (fm s i S) fun w' hI=>?_
  cases hdi:dig s i
  ·refine rpG ?_
   refine dZ aU hlt ?_
   by_cases h45:s[i].toNat=45
   ·refine gk (by omega) ?_
    refine rpG ?_
    refine eB (a:=i) (b:=1) rfl rfl (by omega) ?_
    refine Run.callPure im ia hI (fm s (i+1) S) fun w' hI=>?_
    refine rpG ?_
    exact ⟨by rw [jh hlt,aM h45,dM,fL],hI⟩
   ·refine ew (by omega) ?_
    refine rpG ?_
    exact ⟨by rw [jh hlt,aW h45,g6,fL],hI⟩
  ·refine rpG ?_
   exact ⟨by rw [vJ],hI⟩
 intro t106 _ _ _ _ _ _ _ _ _ _ _ _ _ _ w'
 rintro ⟨rfl,hI⟩
 split at h
 ·rename_i hdg
  have:(dig s i || (sgn s i 45 && dig s (i+1)))=true:=by rw [jC,bw]; exact hdg
  rw [this]
  refine az (fun _=>?_) (fun hb=>by cases hb)
  obtain ⟨k,hk,rfl,_,_,hnum⟩:=HN h (by omega) S
  refine Run.callPure IB IE hI hnum fun w' hI=>?_
  refine aq (v:=KW 2 k) rfl ?_
  refine aq (v:=.int .i64 (n:Int)) rfl ?_
  refine aV hI aY fun b10 w' hI=>?_
  refine aA hI 1 rfl ad rfl rfl (by simp [Value.oneCell']) fun w' hI=>?_
  refine eT (by omega) ?_
  refine az (fun hb=>by cases hb) (fun _=>?_)
  refine ar hI 1 ad rfl rfl ?_
  refine aA hI 0 rfl ad rfl rfl (by simp [Value.oneCell']) fun w' hI=>?_
  refine bC hI 0 ad rfl rfl ?_
  exact ⟨_,[],S,rfl,hI.nil,Ext.refl _ _ _,rfl,_,rfl,RdT.nil (by simp [inI]) hk (by decide +kernel) (be _)⟩
 rename_i hdg
 have:(dig s i || (sgn s i 45 && dig s (i+1)))=false:=by
  rw [bH,ne_eq,jC,bw]; exact hdg
 rw [this]
 refine az (fun hb=>by cases hb) (fun _=>?_)
 refine Run.callPure uT uf hI (qM hlt hs S) fun w' hI=>?_
 cases hnm:rz s i with
 | none=>rw [hnm] at h; cases h
 | some q=>
 obtain ⟨name,m⟩:=q
 rw [hnm] at h
 simp only [] at h
 simp only [PS]
 have hnl:=pO hlt hnm
 refine aq (v:=.string (st name)) rfl ?_
 refine aq (v:=.int .i64 (m:Int)) rfl ?_
 refine eT (by omega) ?_
 refine az (fun hb=>by cases hb) (fun _=>?_)
 refine Run.callPure cP cQ hI (cC s m 40 S) fun w' hI=>?_
 refine bX ?_
 split at h
 ·rename_i h40'
  simp only [bg,cT] at h
  obtain ⟨rfl,rfl⟩:=h
  rw [h40']
  refine az (fun _=>?_) (fun hb=>by cases hb)
  refine Run.call0E dv dw hI (eo (st name) (zw hnl.2.2.1) (kG S) (by simp)) fun v I' S2 w'=>?_
  rintro ⟨rfl,cs,rfl,hcs⟩ hE2 hI
  obtain ⟨kv,rfl,_,_,_,a,k,rfl,_⟩:=RdT.iff.1 hcs
  refine aA hI 0 rfl ad rfl rfl (by simp [Value.oneCell']) fun w' hI=>?_
  refine bC hI 0 ad rfl rfl ?_
  exact ⟨_,[],S2,rfl,hI.nil,hE2,rfl,_,rfl,hcs⟩
 ·rename_i h40'
  rw [Wf] at h40'
  rw [h40']
  refine az (fun hb=>by cases hb) (fun _=>?_)
  split at h
  ·cases h
  rename_i ts k hts
  simp only [bg,cT] at h
  obtain ⟨rfl,rfl⟩:=h
  have hm:=g8 h40'
  have hle2:=(iQ g).2.2.2 _ _ _ _ _ _ _ _ hts
  refine eB (a:=m) (b:=1) rfl rfl (by omega) ?_
  refine BX (a:=d) (b:=1) rfl rfl hd0 (by omega) ?_
  refine Run.call0E zB AJ hI (hT s (m+1) (d - 1) 41 41 ts k S hts hs (by omega) (by omega)) fun v I' S2 w'=>?_
  rintro ⟨rfl,u,rfl,hu⟩ hE2 hI
  refine aq (v:=u) rfl ?_
  refine aq (v:=.int .i64 (k:Int)) rfl ?_
  refine eT (by omega) ?_
  refine az (fun hb=>by cases hb) (fun _=>?_)
  obtain ⟨a,c,rfl,_⟩:=id hu
  refine oY ⟨_,_,_,rfl⟩ ?_
  refine eB (a:=k) (b:=1) rfl rfl (by omega) ?_
  refine aA hI 0 rfl ad rfl rfl (by simp [Value.oneCell']) fun w' hI=>?_
  refine bC hI 0 ad rfl rfl ?_
  exact ⟨_,[],S2,rfl,hI.nil,hE2,rfl,_,rfl,RdT.iff.2 ⟨_,rfl,by simp [inI,T.kind,Es],by simp [inI,T.n,Es],zw hnl.2.2.1,hu⟩⟩
theorem YH {f:Nat} (ihR:∀ g,g<f->sV g) (ihP:∀ g,g<f->L6 g):sV f:=by
 intro s i d l t n S h hs hi hd hl w hI
 cases f with
 | zero=>simp [kT] at h
 | succ f=>
 refine D9.2 ?_
 dsimp only[D9,lG]
 refine aV hI aY fun b8 w' hI=>?_
 have hI:Inv w [] [.blk b8 (.cells #[.int .i64 0,.int .i64 0,.string ⟨#[]⟩,.slice none 0 0] ac)] S w':=hI
 cases l with
 | zero=>
  rw [kT] at h
  refine gk rfl ?_
  refine az (fun _=>?_) (fun hb=>by cases hb)
  refine Run.call0E LN MI hI (ihP f (by omega) s i d t n S h hs hi hd) fun v I' S2 w'=>?_
  rintro ⟨rfl,cs,rfl,hcs⟩ hE2 hI
  obtain ⟨kv,rfl,_,_,_,a,k,rfl,_⟩:=RdT.iff.1 hcs
  refine aq (v:=.agg _) rfl ?_
  refine aq (v:=.int .i64 (n:Int)) rfl ?_
  refine aA hI 0 rfl ad rfl rfl (by simp [Value.oneCell']) fun w' hI=>?_
  refine bC hI 0 ad rfl rfl ?_
  exact ⟨_,[],S2,rfl,hI.nil,hE2,rfl,_,rfl,hcs⟩
 | succ l=>
  rw [kT] at h
  split at h
  ·cases h
  rename_i t0 n0 hr
  have hle:=(iQ f).1 _ _ _ _ _ _ hr
  refine ew (by omega) ?_
  refine az (fun hb=>by cases hb) (fun _=>?_)
  refine BX (a:=l+1) (b:=1) rfl rfl (by omega) (by omega) ?_
  rw [Nat.add_sub_cancel]
  refine Run.call0E gP gV hI (ihR f (by omega) s i d l t0 n0 S hr hs hi hd (by omega)) fun v I' S1 w'=>?_
  rintro ⟨rfl,cs,rfl,hcs⟩ hE1 hI
  obtain ⟨kv,rfl,_,_,_,a,k,rfl,_⟩:=RdT.iff.1 hcs
  refine aq (v:=.agg _) rfl ?_
  refine aq (v:=.int .i64 (n0:Int)) rfl ?_
  refine aV hI aY fun b10 w' hI=>?_
  refine aA hI 1 rfl ad rfl rfl (by simp [Value.oneCell']) fun w' hI=>?_
  refine ⟨fun a w'=>∃ (f' n':Nat) (t':T) (ds:List Value) (S1:af),f'<=f/\a=.int .i64 (n':Int)/\n'<=s.length/\PY f' s n' d l t'=some (t,n)/\Ext w.heap.size [] S S1/\RdT S1 ds t'/\Inv w [] [.blk b8 (.cells #[.int .i64 0,.int .i64 0,.string ⟨#[]⟩,.slice none 0 0] ac),.blk b10 (.cells ds.toArray ac)] S1 w',
   fun a _=>s.length+1 - (intOf a).toNat,⟨f,n0,t0,_,S1,aR _,rfl,hle.2,h,hE1,hcs,hI⟩,?_⟩
  clear h hE1 hcs hI hr hle
  intro _ _ _ _ t11 _ _ _ _ _ _ _ _ _ _ _ _ _ _ _ _ _ _ _ _ _ _ _ _ _ _ _ _ _ _ _ _ _ _ _ _ _ _ _ _ _ _ w'
  rintro ⟨f',n',t',ds,S1,hf',rfl,hn',ho,hE,hds,hI⟩
  obtain ⟨kd,rfl,_,_,hts',da,dm,rfl,_⟩:=RdT.iff.1 hds
  cases f' with
  | zero=>simp [PY] at ho
  | succ g=>
  rw [PY] at ho
  refine o9 (by omega) ?_
  refine az (fun _=>?_) (fun hb=>by cases hb)
  refine Run.callPure Vg Vp hI (SK hs hn' S1) fun w' hI=>?_
  cases hop:opF s n' with
  | none=>
   rw [hop] at ho
   simp only [bg,cT] at ho
   obtain ⟨rfl,rfl⟩:=ho
   simp only [opV]
   refine aq (v:=.string ⟨#[]⟩) rfl ?_
   refine aq (v:=.int .i64 (n':Int)) rfl ?_
   refine ⟨fun b w'=>b=.bool true/\Inv w [] [.blk b8 (.cells #[.int .i64 0,.int .i64 0,.string ⟨#[]⟩,.slice none 0 0] ac),.blk b10 (.cells #[.int .i64 t'.kind,.int .i64 t'.n,.string t'.name,.slice da t'.kids.length dm] ac)] S1 w',?_,?_⟩
   ·refine bO ?_
    rw [aM rfl]
    refine rpG ?_
    exact ⟨rfl,hI⟩
   intro t48 _ _ _ _ _ _ _ w'
   rintro ⟨rfl,hI⟩
   refine az (fun _=>?_) (fun hb=>by cases hb)
   refine ar hI 1 ad rfl rfl ?_
   refine aA hI 0 rfl ad rfl rfl (by simp [Value.oneCell']) fun w' hI=>?_
   refine bC hI 0 ad rfl rfl ?_
   exact ⟨_,[],S1,rfl,hI.nil,hE,rfl,_,rfl,hds⟩
  | some q=>
   obtain ⟨name,after⟩:=q
   rw [hop] at ho
   simp only [] at ho
   simp only [opV]
   have hol:=Xy hop
   refine aq (v:=.string (st name)) rfl ?_
   refine aq (v:=.int .i64 (after:Int)) rfl ?_
   refine ⟨fun b w'=>b=.bool (!decide (cM (st name)=((l+1:Nat):Int)))/\Inv w [] [.blk b8 (.cells #[.int .i64 0,.int .i64 0,.string ⟨#[]⟩,.slice none 0 0] ac),.blk b10 (.cells #[.int .i64 t'.kind,.int .i64 t'.n,.string t'.name,.slice da t'.kids.length dm] ac)] S1 w',?_,?_⟩
   ·refine Hf (b:=[]) ?_
    rw [aW hol.2.2.2]
    refine rpG ?_
    refine Run.callPure ge gi hI (eM _ S1) fun w' hI=>?_
    refine ei ?_
    refine rpG ?_
    exact ⟨rfl,hI⟩
   intro t48 _ _ _ _ _ _ _ w'
   rintro ⟨rfl,hI⟩
   split at ho
   ·rename_i hlv
    rw [aM hlv]
    refine az (fun hb=>by cases hb) (fun _=>?_)
    split at ho
    ·cases ho
    rename_i r e hr
    have hle:=(iQ g).1 _ _ _ _ _ _ hr
    refine BX (a:=l+1) (b:=1) rfl rfl (by omega) (by omega) ?_
    rw [Nat.add_sub_cancel]
    refine Run.call0E gP gV hI (ihR g (by omega) s after d l r e S1 hr hs (by omega) hd (by omega)) fun v I' S2 w'=>?_
    rintro ⟨rfl,es,rfl,hes⟩ hE2 hI
    obtain ⟨ke,rfl,_,_,_,ea,em,rfl,_⟩:=RdT.iff.1 hes
    refine aq (v:=.agg _) rfl ?_
    refine aq (v:=.int .i64 (e:Int)) rfl ?_
    refine aV hI aY fun b14 w' hI=>?_
    refine aA hI 2 rfl ad rfl rfl (by simp [Value.oneCell']) fun w' hI=>?_
    refine eT (by omega) ?_
    refine az (fun hb=>by cases hb) (fun _=>?_)
    refine ar hI 1 ad rfl rfl ?_
    refine ar hI 2 ad rfl rfl ?_
    refine xK (v:=fun b=>.slice (some ⟨b,0,none⟩) 2 2) (o:=.cells #[.int .i64 t'.kind,.int .i64 t'.n,.string t'.name,.slice da t'.kids.length dm,.int .i64 r.kind,.int .i64 r.n,.string r.name,.slice ea r.kids.length em] ac) hI (by kernel_rfl) fun b20 w' hI=>?_
    obtain ⟨S3,hI,hE3,hS3⟩:=Inv.pub1 (A:=[_,_,_]) hI
    have hks:=Ty hS3 (RdT.mono (hE2.1.trans hE3.1) hds) (RdT.mono hE3.1 hes)
    refine Run.call0E dv dw hI (eo (st name) (zw hol.2.2.1) hks (by simp)) fun v I' S4 w'=>?_
    rintro ⟨rfl,gs,rfl,hgs⟩ hE4 hI
    obtain ⟨kg,rfl,_,_,_,ga,gm,rfl,_⟩:=RdT.iff.1 hgs
    have hE':=((hE.trans hE2).trans hE3).trans hE4
    refine aA hI 1 rfl ad rfl rfl (by simp [Value.oneCell']) fun w' hI=>?_
    split at ho
    ·rename_i hl2
     subst hl2
     simp only [bg,cT] at ho
     obtain ⟨rfl,rfl⟩:=ho
     refine gk rfl ?_
     refine az (fun _=>?_) (fun hb=>by cases hb)
     refine ar hI 1 ad rfl rfl ?_
     refine aA hI 0 rfl ad rfl rfl (by simp [Value.oneCell']) fun w' hI=>?_
     refine bC hI 0 ad rfl rfl ?_
     exact ⟨_,[],S4,rfl,hI.nil,hE',rfl,_,rfl,hgs⟩
    ·refine ew (by omega) ?_
     refine az (fun hb=>by cases hb) (fun _=>?_)
     refine ⟨⟨g,e,_,_,S4,by omega,rfl,hle.2,ho,hE',hgs,hI.pick [true,true,false]⟩,?_⟩
     simp only [intOf,cV]
     omega
   ·rename_i hlv
    rw [aW hlv]
    simp only [bg,cT] at ho
    obtain ⟨rfl,rfl⟩:=ho
    refine az (fun _=>?_) (fun hb=>by cases hb)
    refine ar hI 1 ad rfl rfl ?_
    refine aA hI 0 rfl ad rfl rfl (by simp [Value.oneCell']) fun w' hI=>?_
    refine bC hI 0 ad rfl rfl ?_
    exact ⟨_,[],S1,rfl,hI.nil,hE,rfl,_,rfl,hds⟩
theorem Wd:∀ F f,f<F->sV f/\L6 f/\yb f
 | 0,f,h=>by omega
 | F+1,f,h=>by
  have ih:=Wd F
  have hR:sV f:=YH (fun g hg=>(ih g (by omega)).1) (fun g hg=>(ih g (by omega)).2.1)
  have hT:yb f:=W8 fun g hg=>(ih g (by omega)).1
  exact ⟨hR,XG (fun g hg=>(ih g (by omega)).1) (fun g hg=>(ih g (by omega)).2.2),hT⟩
theorem LC (f:Nat):sV f:=(Wd (f+1) f (by omega)).1
end
end
section
open Go Go.RowKit

def lr (cs:List Value) (n:Nat):Prop:=cs=[.int .u8 (n:Int)]/\n<256
abbrev rdI (br:Nat) (sl:Value) (p:Nat):Item:=.blk br (.cells #[sl,.int .i64 (p:Int)] OO)
abbrev rdP (br:Nat):Value:=.pointer (some ⟨br,0,none⟩)
section
variable {P:Program} {w:World} {K:Value->World->Prop}
theorem R9 {T:TypeId} {cx cy:Bool} {x y:Int} {a b:Nat} (hx:x=a) (hy:y=b) (hb:0<b) (hk:K (.int .i64 ((a % b:Nat):Int)) w):Run P (cN .rem T cx cy (.int .i64 x) (.int .i64 y)) w K:=by
 subst hx hy
 exact R7 hb hk
theorem SH {T:TypeId} {cx cy:Bool} {x y:Int} {a b:Nat} (hx:x=a) (hy:y=b) (hb:0<b) (ha:a<=9223372036854775807) (hk:K (.int .i64 ((a / b:Nat):Int)) w):Run P (cN .quo T cx cy (.int .i64 x) (.int .i64 y)) w K:=by
 subst hx hy
 exact aaz hb ha hk
theorem aaZ {T:TypeId} {cx cy:Bool} {x y:Int} {a b:Nat} (hx:x=a) (hy:y=b) (ha:a<4611686018427387904) (hb:b<4611686018427387904) (hk:K (.int .i64 ((a ^^^ b:Nat):Int)) w):Run P (cN .xor T cx cy (.int .i64 x) (.int .i64 y)) w K:=by
 subst hx hy
 exact aa0 ha hb hk
end
theorem RdSl.u8 {S:af} {sl:Value} {ys:List Nat} (h:RdSl S 1 lr sl ys) (h0:0<ys.length):∃ b o cap c E fz,sl=.slice (some ⟨b,o,none⟩) ys.length cap/\S b=some (.cells c E fz)/\
  ∀ i,i<ys.length->∃ y:Nat,c[o+i * 1]?=some (.int .u8 (y:Int))/\y<256:=by
 obtain ⟨a,cap,rfl,hl,hc,h⟩:=h
 rcases h with rfl|⟨b,o,c,E,fz,rfl,hS,hR⟩
 ·simp at h0
 ·refine ⟨b,o,cap,c,E,fz,rfl,hS,fun i hi=>?_⟩
  obtain ⟨h1,h2⟩:=hR i hi
  exact ⟨ys[i],aK h1 0 _ rfl,h2⟩
section
attribute [local irreducible] Run CondV aw aN
abbrev abS (S:af) (br:Nat) (sl:Value) (p n:Nat):Value->List Item->af->Prop:=fun v I' S'=>S'=S/\I'=[rdI br sl (p+1)]/\∃ k:Nat,k<n/\v=.int .i64 (k:Int)
theorem ef {ys:List Nat} {S:af} {sl:Value} {br p n:Nat} (h:RdSl S 1 lr sl ys) (hp:p<=1000000000000) (hn:0<n):Tri Tryz.prog Ip [rdP br,.int .i64 (n:Int)] [rdI br sl p] S (abS S br sl p n):=by
 intro w hI
 refine rS.2 ?_
 dsimp only[rS,aZ]
 obtain ⟨X,hX⟩:∃ X,X=bI [rdI br sl p]:=⟨_,rfl⟩
 rw [<- hX] at hI ⊢
 have hsl:∃ a m cap,sl=.slice a m cap/\m=ys.length:=by
  obtain ⟨a,cap,e,_⟩:=h
  exact ⟨a,_,cap,e,rfl⟩
 refine aE ?_
 refine aB tj ?_
 refine aX hI 0 aH rfl rfl ?_
 refine bq (by omega) ?_
 refine aE ?_
 refine aB tj ?_
 refine c8 hI 0 (n:=1) rfl (by decide +kernel) rfl (by simp) (by simp [Value.cells,Value.oneCell']) fun w' hI=>?_
 have hI:Inv w X [rdI br sl (p+1)] S w':=hI
 have hN:∃ N:Nat,N=ys.length:=⟨_,rfl⟩
 refine ⟨fun t w'=>t=.bool (decide (ys.length=0))/\Inv w X [rdI br sl (p+1)] S w',?_,?_⟩
 ·refine eT (by omega) ?_
  refine Sn (fun _=>?_) (fun hb=>by simp at hb)
  refine aE ?_
  refine aB fV ?_
  refine aX hI 0 jc rfl rfl ?_
  refine aC h ec ?_
  refine bo ?_
  refine xY ?_
  refine ⟨?_,hI⟩
  simp
 intro t24 _ _ _ _ _ _ _ _ _ w'
 rintro ⟨rfl,hI⟩
 refine aI (fun _=>⟨_,_,_,rfl,hI,Ext.refl _ _ _,rfl,rfl,0,hn,rfl⟩) (fun h0=>?_)
 have h0:0<ys.length:=by omega
 obtain ⟨b,o,cap,c,E,fz,rfl,hS,hc⟩:=h.u8 h0
 refine aE ?_
 refine aB tj ?_
 refine aX hI 0 aH rfl rfl ?_
 refine mz (by omega) ?_
 have ep:((p+1:Nat):Int) - 1=(p:Int):=by omega
 rw [ep]
 refine aE ?_
 refine aB fV ?_
 refine aX hI 0 jc rfl rfl ?_
 refine eP ec ?_
 refine bF ?_
 refine aI (fun hlt=>?_) (fun _=>?_)
 ·have hlt':p<ys.length:=by omega
  obtain ⟨y,hy,hy2⟩:=hc p hlt'
  refine aE ?_
  refine aB fV ?_
  refine aX hI 0 jc rfl rfl ?_
  refine aD ec hlt' ?_
  refine cw FG ((hI.cellS hS).trans hy) ?_
  refine qz gq fQ (IntWalk.i64_in _ (by omega)) ?_
  refine R7 hn ?_
  exact ⟨_,_,_,rfl,hI,Ext.refl _ _ _,rfl,rfl,y % n,ue _ hn,rfl⟩
 ·obtain ⟨i1,hd1⟩:∃ i1,i1=p % ys.length:=⟨_,rfl⟩
  obtain ⟨i2,hd2⟩:∃ i2,i2=(p * 7+3) % ys.length:=⟨_,rfl⟩
  obtain ⟨q,hdq⟩:∃ q,q=p / ys.length:=⟨_,rfl⟩
  have hi1:i1<ys.length:=by rw [hd1]; exact ue _ h0
  have hi2:i2<ys.length:=by rw [hd2]; exact ue _ h0
  have hq:q<=p:=by rw [hdq]; exact Nat.div_le_self ..
  obtain ⟨y1,hv1,hy1⟩:=hc i1 hi1
  obtain ⟨y2,hv2,hy2⟩:=hc i2 hi2
  skip
  refine ⟨fun D x6 x91 x90 x89 x88 Z2 ZY ZX x84 Wh x82 Xc XT x79 x78 T2 T9 UO Ua Us Uw UK TS WK x68 x67 Yk KZ Ok DW DG El Ba CE CD C6 Ei K9 Gu GP C9 DN C5 Ai rY rx w_=>Fx D 0 [rx=.pointer (some ⟨br,0,none⟩),rY=.pointer (some ⟨br,0,none⟩),Ai=.pointer (some ⟨br,0,none⟩),C5=.slice (some ⟨b,o,none⟩) ys.length cap,DN=.int .i64 (p:Int),C9=.pointer (some ⟨br,0,none⟩),GP=.pointer (some ⟨br,0,none⟩),Gu=.pointer (some ⟨br,0,none⟩),K9=.slice (some ⟨b,o,none⟩) ys.length cap,Ei=.int .i64 (ys.length:Int),C6=.int .i64 (((i1:Nat):Int)),CD=.pointer (some ⟨b,o+i1 * 1,none⟩),CE=.int .u8 ((y1:Nat):Int),Ba=.int .i64 (((y1:Nat):Int)),El=.int .i64 ((((y1:Nat):Int) * 131)),DG=.pointer (some ⟨br,0,none⟩),DW=.pointer (some ⟨br,0,none⟩),Ok=.pointer (some ⟨br,0,none⟩),KZ=.slice (some ⟨b,o,none⟩) ys.length cap,Yk=.int .i64 (p:Int),x67=.int .i64 (((p:Int) * 7)),x68=.int .i64 ((((p:Int) * 7)+3)),WK=.pointer (some ⟨br,0,none⟩),TS=.pointer (some ⟨br,0,none⟩),UK=.pointer (some ⟨br,0,none⟩),Uw=.slice (some ⟨b,o,none⟩) ys.length cap,Us=.int .i64 (ys.length:Int),Ua=.int .i64 (((i2:Nat):Int)),UO=.pointer (some ⟨b,o+i2 * 1,none⟩),T9=.int .u8 ((y2:Nat):Int),T2=.int .i64 (((y2:Nat):Int)),x78=.int .i64 ((((y2:Nat):Int) * 1117)),x79=.int .i64 (((((y1:Nat):Int) * 131)+(((y2:Nat):Int) * 1117))),XT=.int .i64 (p:Int),Xc=.int .i64 (((p:Int) * 29)),x82=.int .i64 ((((((y1:Nat):Int) * 131)+(((y2:Nat):Int) * 1117))+((p:Int) * 29))),Wh=.int .i64 (p:Int),x84=.pointer (some ⟨br,0,none⟩),ZX=.pointer (some ⟨br,0,none⟩),ZY=.pointer (some ⟨br,0,none⟩),Z2=.slice (some ⟨b,o,none⟩) ys.length cap,x88=.int .i64 (ys.length:Int),x89=.int .i64 (((q:Nat):Int)),x90=.int .i64 ((((q:Nat):Int) * 53)),x91=.int .i64 (((((((y1:Nat):Int) * 131)+(((y2:Nat):Int) * 1117))+((p:Int) * 29))+(((q:Nat):Int) * 53))),x6=.int .i64 (((((((y1:Nat):Int) * 131)+(((y2:Nat):Int) * 1117))+((p:Int) * 29))+(((q:Nat):Int) * 53)))]/\Inv w X [rdI br (.slice (some ⟨b,o,none⟩) ys.length cap) (p+1)] S w_,⟨Fx.nil _ _,hI.draw⟩,⟨?_,?_,?_,?_,?_,?_,?_,?_,?_,?_,?_,?_,?_,?_,?_,?_,?_,?_,?_,?_,?_,?_,?_,?_,?_,?_,?_,?_,?_,?_,?_,?_,?_,?_,?_,?_,?_,?_,?_,?_,?_,?_,?_,?_,?_,?_,trivial⟩,?_⟩
  all_goals (intro D bP; intros; rename_i x6 x91 x90 x89 x88 Z2 ZY ZX x84 Wh x82 Xc XT x79 x78 T2 T9 UO Ua Us Uw UK TS WK x68 x67 Yk KZ Ok DW DG El Ba CE CD C6 Ei K9 Gu GP C9 DN C5 Ai rY rx w_ hA_; have hF_:=hA_.1; obtain ⟨⟨cm,cj,cd,ci,bT,ct,bZ,cR,dq,er,co,cG,dJ,fl,fS,gD,kF,nn,qL,jl,uE,tZ,ti,vx,HJ,Yf,X1,Wm,X3,ZN,acn,abw,abO,acZ,ac0,acw,acr,acH,acW,abv,acI,acB,abG,ab0,abQ,adc,_⟩,hI⟩:=hA_)
  ·exact ⟨hF_.set 0 rfl,hI⟩
  ·obtain rfl:=cm ‹_›
   refine aE ?_
   exact ⟨hF_.set 1 rfl,hI⟩
  ·obtain rfl:=cj ‹_›
   refine aB fV ?_
   exact ⟨hF_.set 2 rfl,hI⟩
  ·obtain rfl:=cd ‹_›
   refine aX hI 0 jc rfl rfl ?_
   exact ⟨hF_.set 3 rfl,hI⟩
  ·exact ⟨hF_.set 4 rfl,hI⟩
  ·exact ⟨hF_.set 5 rfl,hI⟩
  ·obtain rfl:=ct ‹_›
   refine aE ?_
   exact ⟨hF_.set 6 rfl,hI⟩
  ·obtain rfl:=bZ ‹_›
   refine aB fV ?_
   exact ⟨hF_.set 7 rfl,hI⟩
  ·obtain rfl:=cR ‹_›
   refine aX hI 0 jc rfl rfl ?_
   exact ⟨hF_.set 8 rfl,hI⟩
  ·obtain rfl:=dq ‹_›
   refine eP ec ?_
   exact ⟨hF_.set 9 rfl,hI⟩
  ·obtain rfl:=bT ‹_›
   obtain rfl:=er ‹_›
   refine R9 (a:=p) (b:=ys.length) (by omega) rfl h0 ?_; rw [<- hd1]
   exact ⟨hF_.set 10 rfl,hI⟩
  ·obtain rfl:=ci ‹_›
   obtain rfl:=co ‹_›
   refine aD ec hi1 ?_
   exact ⟨hF_.set 11 rfl,hI⟩
  ·obtain rfl:=cG ‹_›
   refine cw FG ((hI.cellS hS).trans hv1) ?_
   exact ⟨hF_.set 12 rfl,hI⟩
  ·obtain rfl:=dJ ‹_›
   refine qz gq fQ (IntWalk.i64_in _ (by omega)) ?_
   exact ⟨hF_.set 13 rfl,hI⟩
  ·obtain rfl:=fl ‹_›
   refine Hm (by omega) ?_
   exact ⟨hF_.set 14 rfl,hI⟩
  ·exact ⟨hF_.set 15 rfl,hI⟩
  ·obtain rfl:=gD ‹_›
   refine aE ?_
   exact ⟨hF_.set 16 rfl,hI⟩
  ·obtain rfl:=kF ‹_›
   refine aB fV ?_
   exact ⟨hF_.set 17 rfl,hI⟩
  ·obtain rfl:=nn ‹_›
   refine aX hI 0 jc rfl rfl ?_
   exact ⟨hF_.set 18 rfl,hI⟩
  ·exact ⟨hF_.set 19 rfl,hI⟩
  ·obtain rfl:=jl ‹_›
   refine Hm (by omega) ?_
   exact ⟨hF_.set 20 rfl,hI⟩
  ·obtain rfl:=uE ‹_›
   refine bq (by omega) ?_
   exact ⟨hF_.set 21 rfl,hI⟩
  ·exact ⟨hF_.set 22 rfl,hI⟩
  ·obtain rfl:=ti ‹_›
   refine aE ?_
   exact ⟨hF_.set 23 rfl,hI⟩
  ·obtain rfl:=vx ‹_›
   refine aB fV ?_
   exact ⟨hF_.set 24 rfl,hI⟩
  ·obtain rfl:=HJ ‹_›
   refine aX hI 0 jc rfl rfl ?_
   exact ⟨hF_.set 25 rfl,hI⟩
  ·obtain rfl:=Yf ‹_›
   refine eP ec ?_
   exact ⟨hF_.set 26 rfl,hI⟩
  ·obtain rfl:=tZ ‹_›
   obtain rfl:=X1 ‹_›
   refine R9 (a:=p * 7+3) (b:=ys.length) (by omega) rfl h0 ?_; rw [<- hd2]
   exact ⟨hF_.set 27 rfl,hI⟩
  ·obtain rfl:=qL ‹_›
   obtain rfl:=Wm ‹_›
   refine aD ec hi2 ?_
   exact ⟨hF_.set 28 rfl,hI⟩
  ·obtain rfl:=X3 ‹_›
   refine cw FG ((hI.cellS hS).trans hv2) ?_
   exact ⟨hF_.set 29 rfl,hI⟩
  ·obtain rfl:=ZN ‹_›
   refine qz gq fQ (IntWalk.i64_in _ (by omega)) ?_
   exact ⟨hF_.set 30 rfl,hI⟩
  ·obtain rfl:=acn ‹_›
   refine Hm (by omega) ?_
   exact ⟨hF_.set 31 rfl,hI⟩
  ·obtain rfl:=fS ‹_›
   obtain rfl:=abw ‹_›
   refine bq (by omega) ?_
   exact ⟨hF_.set 32 rfl,hI⟩
  ·exact ⟨hF_.set 33 rfl,hI⟩
  ·obtain rfl:=acZ ‹_›
   refine Hm (by omega) ?_
   exact ⟨hF_.set 34 rfl,hI⟩
  ·obtain rfl:=abO ‹_›
   obtain rfl:=ac0 ‹_›
   refine bq (by omega) ?_
   exact ⟨hF_.set 35 rfl,hI⟩
  ·exact ⟨hF_.set 36 rfl,hI⟩
  ·exact ⟨hF_.set 37 rfl,hI⟩
  ·obtain rfl:=acH ‹_›
   refine aE ?_
   exact ⟨hF_.set 38 rfl,hI⟩
  ·obtain rfl:=acW ‹_›
   refine aB fV ?_
   exact ⟨hF_.set 39 rfl,hI⟩
  ·obtain rfl:=abv ‹_›
   refine aX hI 0 jc rfl rfl ?_
   exact ⟨hF_.set 40 rfl,hI⟩
  ·obtain rfl:=acI ‹_›
   refine eP ec ?_
   exact ⟨hF_.set 41 rfl,hI⟩
  ·obtain rfl:=acr ‹_›
   obtain rfl:=acB ‹_›
   refine SH (a:=p) (b:=ys.length) rfl rfl h0 (by omega) ?_; rw [<- hdq]
   exact ⟨hF_.set 42 rfl,hI⟩
  ·obtain rfl:=abG ‹_›
   refine Hm (by omega) ?_
   exact ⟨hF_.set 43 rfl,hI⟩
  ·obtain rfl:=acw ‹_›
   obtain rfl:=ab0 ‹_›
   refine bq (by omega) ?_
   exact ⟨hF_.set 44 rfl,hI⟩
  ·obtain rfl:=abQ ‹_›
   exact ⟨hF_.set 45 rfl,hI⟩
  obtain ⟨rfl,rfl,rfl,rfl,rfl,rfl,rfl,rfl,rfl,rfl,rfl,rfl,rfl,rfl,rfl,rfl,rfl,rfl,rfl,rfl,rfl,rfl,rfl,rfl,rfl,rfl,rfl,rfl,rfl,rfl,rfl,rfl,rfl,rfl,rfl,rfl,rfl,rfl,rfl,rfl,rfl,rfl,rfl,rfl,rfl,rfl,_⟩:=hF_.all
  clear hF_ cm cj cd ci bT ct bZ cR dq er co cG dJ fl fS gD kF nn qL jl uE tZ ti vx HJ Yf X1 Wm X3 ZN acn abw abO acZ ac0 acw acr acH acW abv acI acB abG ab0 abQ adc
  obtain ⟨x,hx⟩:∃ x:Nat,((((((y1:Nat):Int) * 131)+(((y2:Nat):Int) * 1117))+((p:Int) * 29))+(((q:Nat):Int) * 53))=(x:Int):=⟨(((((((y1:Nat):Int) * 131)+(((y2:Nat):Int) * 1117))+((p:Int) * 29))+(((q:Nat):Int) * 53))).toNat,by omega⟩
  have hx2:x<=10000000000000000:=by omega
  rw [hx]
  refine SH (a:=x) (b:=64) rfl rfl (by omega) (by omega) ?_
  refine aaZ (a:=x) (b:=x / 64) rfl rfl (by omega) (by omega) ?_
  refine R7 hn ?_
  exact ⟨_,_,_,rfl,hI,Ext.refl _ _ _,rfl,rfl,_,ue _ hn,rfl⟩
theorem pd {ys:List Nat} {ns:List Int} {S:af} {sl v:Value} {br p:Nat} (h:RdSl S 1 lr sl ys) (hv:RdSl S 1 i5 v ns) (h0:0<ns.length) (hp:p<=1000000000000) :
  Tri Tryz.prog JZ [rdP br,v] [rdI br sl p] S fun r I' S'=>S'=S/\I'=[rdI br sl (p+1)]/\∃ n∈ns,r=.int .i64 n:=by
 intro w hI
 refine sM.2 ?_
 dsimp only[sM,aZ]
 refine aC hv c5 ?_
 refine Run.call (A:=[]) cI cJ hI (ef h hp h0) fun v' I' S' w'=>?_
 rintro ⟨rfl,rfl,k,hk,rfl⟩ _ hI
 obtain ⟨b,o,cap,c,E,fz,rfl,hS,hR⟩:=hv.at_ hk
 refine aD c5 hk ?_
 refine cw aH ((hI.cellS hS).trans (aK hR 0 _ rfl)) ?_
 exact ⟨_,_,_,rfl,hI,Ext.refl _ _ _,rfl,rfl,_,bA hk,rfl⟩
theorem zk {ys:List Nat} {ns:List ByteArray} {S:af} {sl v:Value} {br p:Nat} (h:RdSl S 1 lr sl ys) (hv:RdSl S 1 wJ v ns) (h0:0<ns.length) (hp:p<=1000000000000) :
  Tri Tryz.prog NP [rdP br,v] [rdI br sl p] S fun r I' S'=>S'=S/\I'=[rdI br sl (p+1)]/\∃ n∈ns,r=.string n:=by
 intro w hI
 refine ww.2 ?_
 dsimp only[ww,aZ]
 refine aC hv cH ?_
 refine Run.call (A:=[]) cI cJ hI (ef h hp h0) fun v' I' S' w'=>?_
 rintro ⟨rfl,rfl,k,hk,rfl⟩ _ hI
 obtain ⟨b,o,cap,c,E,fz,rfl,hS,hR⟩:=hv.at_ hk
 refine aD cH hk ?_
 refine cw aQ ((hI.cellS hS).trans (aK hR 0 _ rfl)) ?_
 exact ⟨_,_,_,rfl,hI,Ext.refl _ _ _,rfl,rfl,_,bA hk,rfl⟩
theorem FB {ys:List Nat} {S:af} {v:Value} (h:RdSl S 1 lr v ys) :
  Tri Tryz.prog QO [v] [] S fun r I' S'=>S'=S/\∃ br sl ys',r=rdP br/\I'=[rdI br sl 0]/\RdSl S 1 lr sl ys':=by
 intro w hI
 refine zc.2 ?_
 dsimp only[zc,aL]
 refine ⟨fun t w'=>(∃ ys',RdSl S 1 lr t ys')/\Inv w [] [] S w',?_,?_⟩
 ·refine aC h ec ?_
  refine dC ?_
  refine aI (fun hgt=>?_) (fun _=>⟨⟨_,h⟩,hI⟩)
  obtain ⟨a,cap,rfl,hl,hc,hh⟩:=id h
  refine xV (h:=2000) ec (by omega) ?_
  exact ⟨⟨_,RdSl.to h (by omega)⟩,hI⟩
 intro t0 _ _ _ _ _ w'
 rintro ⟨⟨ys',hr⟩,hI⟩
 obtain ⟨a,cap,rfl,_⟩:=id hr
 refine Run.of (v:=.agg #[.slice a ys'.length cap,.int .i64 0]) (w':=w') ?_ ?_
 ·unfold cU
  rw [Sem.run_bind,run_build w' OO _ #[.slice a ys'.length cap,.int .i64 0] (by kernel_rfl),Result.andThen_ok]
  rfl
 refine bt hI fun br w' hI=>?_
 exact ⟨_,_,_,rfl,hI,Ext.refl _ _ _,rfl,br,_,ys',rfl,rfl,hr⟩
end
end
end Go.Proofs.YtgllldjiaglkcaaGreatDoor
