/- spec.l13First. -/
import Derived.Test.YtbocelianhcfmaaGreatDoorZEg20
namespace Go.Proofs.YtbocelianhcfmaaGreatDoor
section
open Go Go.RowKit
theorem TryL.left {p:List C} {chs:List Ch} {c:Ch} {l:List Int} {o:Option St6} (h:TryL p chs c l o) (l':List Int):TryL p chs ⟨c.goal,c.rest,l',c.binds⟩ l o:=by
 induction h with
 | nil=>exact .nil
 | hit h1 h2=>exact .hit (c:=⟨c.goal,c.rest,l',c.binds⟩) h1 h2
 | miss h1 h2 _ ih=>exact .miss h1 h2 ih
theorem FirstL.inv {p:List C} {chs:List Ch} {c:Ch} {x:Int} {l:List Int} {o:Option (St6 × Int × List Int)} (h:FirstL p chs c (x::l) o) :
  ∃ o1,TryL p chs c [x] o1/\((∃ s,o1=some s/\o=some (s,x,l)) ∨ (o1=none/\FirstL p chs c l o)):=by
 cases h with
 | hit h=>exact ⟨_,h,.inl ⟨_,rfl,rfl⟩⟩
 | miss h1 h2=>exact ⟨_,h1,.inr ⟨rfl,h2⟩⟩
def Px (s:St6) (o:Option (St6 × Int × List Int)):Value->List Item->ae->Prop:=fun q I' S'=>I'=[]/\∃ (cs:List Value) (lv:Value),q=.tuple #[.agg cs.toArray,.int .i64 (o.elim (-1) (·.2.1)),lv,.bool o.isSome]/\
 RdS6 S' cs (o.elim s (·.1))/\RdSl S' 1 gz lv (o.elim [] (·.2.2))
section
variable {P:Program} {w w0:World} {X:List Nat} {L:List Item} {S:ae} {K:Value->World->Prop}
attribute [local irreducible] Run CondV ar aI
theorem Hi {α:Type} {R:List Value->α->Prop} {xs:List α} {u:Value} {T ty e:TypeId} {k l:Nat} (hT:ce P T=some (e,k)) (hx:RdSl S k R u xs) (hl:l<xs.length)
  (hk:∀ v',RdSl S k R v' [xs[l]]->K v' w):Run P (sOp (.slice T (.const u) (some (.const (.int .i64 l))) (some (.const (.int .i64 ((l+1:Nat):Int)))) none) ty) w K:=by
 obtain ⟨a,cap,rfl,hlc,hc,hx'⟩:=id hx
 have h1:=hx.to (show l+1<=xs.length by omega)
 have e:(if cap=0 then a else a.map (·.add (0 * k)))=a:=by
  split
  ·rfl
  ·cases a <;> simp [Addr.add]
 rw [e] at h1
 have hlt:(xs.take (l+1)).length=l+1:=by rw [List.length_take]; omega
 have h2:=h1.from (l:=l) (by omega)
 have e2:(xs.take (l+1)).drop l=[xs[l]]:=by
  rw [List.take_succ_eq_append_getElem hl]
  exact List.drop_left' (by rw [List.length_take]; omega)
 rw [e2] at h2
 exact Od hT (by omega) (by omega) (hk _ h2)
end
section
attribute [local irreducible] Run CondV ar aI
set_option maxHeartbeats 1000000 in
theorem zR {p:List C} (hp:∀ cl∈p,sV cl) {k:Nat} (hk:k<=1000) {c:Ch} (hc:iZ c) (hr:okRk k c) {s:St6} {o:Option (St6 × Int × List Int)} (h:FirstL p s.chs c c.left o) (hn:s.chs.length<=1000)
  {S:ae} {u:Value} {ss cs:List Value} (hP:RdSl S 5 (RdC S) u p) (hs:RdS6 S ss s) (hcc:RdCh S cs c):Tri Tryz.prog C2 [u,.agg ss.toArray,.agg cs.toArray] [] S (Px s o):=by
 intro w hI
 have hss3:=hs.length
 obtain ⟨gs,sb,sc,rfl,hsg,hsb,hsc⟩:=id hs
 obtain ⟨hd,rv,lv,bv,rfl,hgo,hre,hle,hbi⟩:=id hcc
 obtain ⟨la,lc,rfl,_⟩:=id hle
 have hgo0:=hgo
 obtain ⟨kv,rfl,_⟩:=RdT.iff.1 hgo
 have hll:=hle.le
 simp only [maxLen] at hll
 refine pO.2 ?_
 dsimp only[pO,cM]
 refine be hI fun b4 w' hI=>?_
 refine be hI fun b5 w' hI=>?_
 refine aA hI fg fun b6 w' hI=>?_
 obtain ⟨B4,hB4⟩:∃ B:Item,B=.blk b4 (.cells #[gs,sb,sc] bt):=⟨_,rfl⟩
 obtain ⟨B5,hB5⟩:∃ B:Item,B=.blk b5 (.cells #[.int .i64 c.goal.kind,.int .i64 c.goal.n,.string c.goal.name,kv,rv,.slice la c.left.length lc,bv] bM):=⟨_,rfl⟩
 obtain ⟨B6,hB6⟩:∃ B:Item,B=.blk b6 (.cells zSt bt):=⟨_,rfl⟩
 have e4:=congrArg some hB4
 have e5:=congrArg some hB5
 have e6:=congrArg some hB6
 have hI:Inv w [] [B4,B5,B6] S w':=by rw [hB4,hB5,hB6]; exact hI
 refine ⟨fun i w'=>∃ (j:Nat) (S1:ae),j<=c.left.length/\i=.int .i64 j/\FirstL p s.chs c (c.left.drop j) o/\Ext w.heap.size [] S S1/\Inv w [] [B4,B5,B6] S1 w',
  fun i _=>c.left.length - (intOf i).toNat,⟨0,S,Nat.zero_le _,rfl,h,Ext.refl _ _ _,hI⟩,?_⟩
 intro t10 _ _ t9 t8 t7 t47 t46 t45 t44 t43 t42 t41 t40 t39 t38 t37 _ _ _ _ _ _ _ _ _ _ _ _ _ _ _ _ _ _ _ _ _ _ _ _ w'
 rintro ⟨j,S1,hj,rfl,hT,hE,hI⟩
 refine ad hI 1 e5 cI hK rfl ?_
 refine aK hle cW ?_
 refine bD ?_
 refine aN (fun hji=>?_) (fun hji=>?_)
 ·have hj':j<c.left.length:=by omega
  rw [List.drop_eq_getElem_cons hj'] at hT
  obtain ⟨o1,ht,hcase⟩:=hT.inv
  refine ag hI 1 cK e5 rfl ?_
  refine aA hI i7 fun b11 w' hI=>?_
  have hI:Inv w [] [B4,B5,B6,.blk b11 (.cells zCh bM)] S1 w':=hI
  refine aj hI 3 rfl cK rfl rfl (by simpa using hcc.one) fun w' hI=>?_
  have hI:Inv w [] [B4,B5,B6,.blk b11 (.cells #[.int .i64 c.goal.kind,.int .i64 c.goal.n,.string c.goal.name,kv,rv,.slice la c.left.length lc,bv] bM)] S1 w':=hI
  refine ad hI 1 e5 cI hK rfl ?_
  refine bm (by omega) ?_
  rw [show ((j:Int)+1)=((j+1:Nat):Int) by omega]
  refine Hi cW hle hj' fun l1 hl1=>?_
  refine cP hI 3 rfl cI hK rfl (by obtain ⟨a,m,rfl,_⟩:=hl1; rfl) hl1.sl fun w' hI=>?_
  have hI:Inv w [] [B4,B5,B6,.blk b11 (.cells #[.int .i64 c.goal.kind,.int .i64 c.goal.n,.string c.goal.name,kv,rv,l1,bv] bM)] S1 w':=hI
  refine ag hI 0 bC e4 rfl ?_
  refine ag hI 3 cK rfl rfl ?_
  have hcc1:RdCh S1 [.int .i64 c.goal.kind,.int .i64 c.goal.n,.string c.goal.name,kv,rv,l1,bv] ⟨c.goal,c.rest,[c.left[j]],c.binds⟩:=
   ⟨_,_,_,_,rfl,hgo0.mono hE.1,hre.monoG hE.1,hl1.mono hE.1 fun _ _ h=>h,hbi.monoO hE.1⟩
  refine Run.call0E H0 Ha hI (FI hp hk (c:=⟨c.goal,c.rest,[c.left[j]],c.binds⟩) ⟨hc.good,hc.goal,hc.rest⟩ ⟨hr.nb,hr.nr,hr.tab,hr.goal,hr.rest,hr.pos⟩ (ht.left _) hn (hP.monoC hE.1) (hs.mono hE.1) hcc1) fun v' I' S2 w'=>?_
  rintro ⟨rfl,ns,rfl,hns⟩ hE2 hI
  have hI:Inv w [] [B4,B5,B6,.blk b11 (.cells #[.int .i64 c.goal.kind,.int .i64 c.goal.n,.string c.goal.name,kv,rv,l1,bv] bM)] S2 w':=hI
  have hE12:=hE.trans hE2
  have hl3:=hns.length
  refine ai (v:=.agg ns.toArray) rfl ?_
  refine ai (v:=.bool o1.isSome) rfl ?_
  refine aA hI fg fun b12 w' hI=>?_
  have hI:Inv w [] [B4,B5,B6,.blk b11 (.cells #[.int .i64 c.goal.kind,.int .i64 c.goal.n,.string c.goal.name,kv,rv,l1,bv] bM),.blk b12 (.cells zSt bt)] S2 w':=hI
  refine aj hI 4 rfl bC (by simpa using hl3) rfl (by simpa using hns.one) fun w' hI=>?_
  obtain ⟨B12,hB12⟩:∃ B:Item,B=.blk b12 (.cells ns.toArray bt):=⟨_,rfl⟩
  have e12:=congrArg some hB12
  have hI:Inv w [] [B4,B5,B6,B12] S2 w':=by rw [hB12]; exact hI.pick [true,true,true,false,true]
  rcases hcase with ⟨s1,rfl,rfl⟩|⟨rfl,hT⟩
  ·refine av (fun _=>?_) (fun hb=>by cases hb)
   obtain ⟨lb,lo,lc2,lcs,lE,lfz,hlv,hlS,hlR⟩:=hle.at_ hj'
   have hla:la=some ⟨lb,lo,none⟩:=by
    simp only [Value.slice.injEq] at hlv
    exact hlv.1
   have hix:∀ {ty:TypeId} {K:Value->World->Prop} {w':World},K (.pointer (some ⟨lb,lo+j * 1,none⟩)) w'->Run Tryz.prog (sOp (.indexAddr GZ (.const (.slice la c.left.length lc)) (.const (.int .i64 j))) ty) w' K:=fun hk=>by rw [hla]; exact ay cW hj' hk
   have hlR:aL lcs (lo+j * 1) 1=[.int .i64 c.left[j]]:=hlR
   have hcell:lcs[lo+j * 1]?=some (.int .i64 c.left[j]):=aD hlR 0 _ rfl
   have hlS:=hE12.1 _ _ hlS
   rw [hB6] at hI
   have hI0:=hI
   refine ⟨fun D x9 x8 x7 lW nU mf kB iE jb iD lX gD fN kJ w_=>Fx D 0 [kJ=.agg ns.toArray,fN=.pointer (some ⟨b5,5,none⟩),gD=.slice la c.left.length lc,lX=.int .i64 (j:Int),iD=.pointer (some ⟨lb,lo+j * 1,none⟩),jb=.int .i64 c.left[j],iE=.pointer (some ⟨b5,5,none⟩),kB=.slice la c.left.length lc,mf=.int .i64 (j:Int),nU=.int .i64 ((j+1:Nat):Int),RdSl S 1 gz lW (c.left.drop (j+1)),True,x7=.int .i64 c.left[j],RdSl S 1 gz x8 (c.left.drop (j+1)),x9=.bool true]/\Inv w [] [B4,B5,.blk b6 (.cells (cond (D 11) ns.toArray zSt) bt),B12] S2 w_,⟨Fx.nil _ _,hI.draw⟩,⟨?_,?_,?_,?_,?_,?_,?_,?_,?_,?_,?_,?_,?_,?_,?_,trivial⟩,?_⟩
   all_goals (intro D bw; intros; rename_i x9 x8 x7 lW nU mf kB iE jb iD lX gD fN kJ w_ hA_; have hF_:=hA_.1; obtain ⟨⟨bQ,bS,bU,bR,bY,bZ,bO,cG,cS,cT,bL,co,cO,dJ,dT,_⟩,hI⟩:=hA_)
   ·refine ag hI 3 bC e12 (by simpa using hl3) ?_
    exact ⟨hF_.set 0 rfl,hI⟩
   ·refine ao cI ?_
    exact ⟨hF_.set 1 rfl,hI⟩
   ·obtain rfl:=bS ‹_›
    refine ax hI 1 hK e5 rfl ?_
    exact ⟨hF_.set 2 rfl,hI⟩
   ·exact ⟨hF_.set 3 rfl,hI⟩
   ·obtain rfl:=bU ‹_›
    obtain rfl:=bR ‹_›
    refine hix ?_
    exact ⟨hF_.set 4 rfl,hI⟩
   ·obtain rfl:=bY ‹_›
    refine dd aw ((hI.cellS hlS).trans hcell) ?_
    exact ⟨hF_.set 5 rfl,hI⟩
   ·refine ao cI ?_
    exact ⟨hF_.set 6 rfl,hI⟩
   ·obtain rfl:=bO ‹_›
    refine ax hI 1 hK e5 rfl ?_
    exact ⟨hF_.set 7 rfl,hI⟩
   ·exact ⟨hF_.set 8 rfl,hI⟩
   ·obtain rfl:=cS ‹_›
    refine bm (by omega) ?_; rw [show ((j:Int)+1)=((j+1:Nat):Int) by omega]
    exact ⟨hF_.set 9 rfl,hI⟩
   ·obtain rfl:=cG ‹_›
    obtain rfl:=cT ‹_›
    refine io cW hle (by omega) fun v' hv'=>?_
    exact ⟨hF_.set 10 (by first|assumption|trivial),hI⟩
   ·obtain rfl:=bQ ‹_›
    rw [bw] at hI; refine aj hI 2 rfl bC (by simpa using hl3) rfl (by simpa using hns.one) fun w_ hI=>?_
    exact ⟨hF_.set 11 trivial,hI⟩
   ·obtain rfl:=bZ ‹_›
    exact ⟨hF_.set 12 rfl,hI⟩
   ·have xG:=bL ‹_›
    have xG:=bL ‹D 10=true›
    exact ⟨hF_.set 13 (by first|assumption|trivial),hI⟩
   ·exact ⟨hF_.set 14 rfl,hI⟩
   obtain ⟨rfl,rfl,rfl,rfl,rfl,rfl,rfl,rfl,rfl,rfl,xG,_,rfl,Pf,rfl,_⟩:=hF_.all
   have uL:D 11=true:=by assumption
   clear hF_ bQ bS bU bR bY bZ bO cG cS cT bL co cO dJ dT
   rw [uL] at hI
   refine aS hI 2 bC rfl (by simpa using hl3) ?_
   exact ⟨_,[],S2,rfl,hI.nil,hE12,rfl,ns,_,rfl,hns,Pf.mono hE12.1 fun _ _ h=>h⟩
  ·refine av (fun hb=>by cases hb) (fun _=>?_)
   refine bm (by omega) ?_
   exact ⟨⟨j+1,S2,hj',rfl,hT,hE12,hI.pick [true,true,true]⟩,by simp [intOf]; omega⟩
 ·have:j=c.left.length:=by omega
  subst this
  rw [List.drop_length] at hT
  cases hT
  refine ag hI 0 bC e4 rfl ?_
  refine aj (cs:=#[gs,sb,sc]) hI 2 e6 bC rfl rfl (by simpa using hs.one) fun w' hI=>?_
  refine aS hI 2 bC rfl rfl ?_
  exact ⟨_,[],S1,rfl,hI.nil,hE,rfl,_,_,rfl,hs.mono hE.1,RdSl.nil0 ..⟩
end
end
section
open Go Go.RowKit
def anP {α:Type} (w0:World) (X:List Nat) (A:List Item) (T:TypeId) (k:Nat) (R:ae->List Value->α->Prop) (xs:List α) (y:α) (S0:ae) (Tn:TypeId) (z:Array Value) (Q:ae->Value->Prop)
  (d5 db da ds:Bool) (v0 v1 v5 v2 vb x:Value) (w:World) (n:Nat):Prop:=
 ∃ S1 b q,Ext w0.heap.size X S0 S1/\(d5=true->RdSl S1 k (R S1) v5 [y])/\(db=true->Q S1 vb)/\(da=true->x=.pointer (some ⟨b,0,none⟩))/\(ds=true->da=true)/\(ds=false->q=z)/\(ds=true->Q S1 (.agg q))/\
  apC w0 X (A++cond da [.blk b (.cells q Tn)] []) T k R xs y S1 v0 v1 v2 w n
section
variable {α:Type} {P:Program} {w0 w:World} {X:List Nat} {A:List Item} {e:TypeId} {k:Nat} {R:ae->List Value->α->Prop} {xs:List α} {y:α} {S0:ae} {Tn:TypeId} {z:Array Value} {Q:ae->Value->Prop}
 {d5 db da ds:Bool} {v0 v1 v5 v2 vb x:Value} {n:Nat} {K:Value->World->Prop}
attribute [local irreducible] Run
theorem anP.mk {S:ae} (h:Inv w0 X A S w) (v0 v1 v5 v2 vb x:Value):anP w0 X A e k R xs y S Tn z Q false false false false v0 v1 v5 v2 vb x w 0:=
 ⟨S,0,z,Ext.refl _ _ _,fun h=>(by cases h),fun h=>(by cases h),fun h=>(by cases h),fun h=>(by cases h),fun _=>rfl,fun h=>(by cases h),by rw [cond_false,List.append_nil]; exact h⟩
theorem anP.inv (h:anP w0 X A e k R xs y S0 Tn z Q d5 db da ds v0 v1 v5 v2 vb x w n):∃ S1 B,Ext w0.heap.size X S0 S1/\Inv w0 X (A++B) S1 w:=by
 obtain ⟨S1,b,q,h1,_,_,_,_,_,_,h5⟩:=h
 obtain ⟨B,hI⟩:=h5.inv
 exact ⟨S1,_,h1,by rw [List.append_assoc] at hI; exact hI⟩
theorem anP.fin (h:anP w0 X A e k R xs y S0 Tn z Q d5 db true true v0 v1 v5 v2 vb x w 3):∃ S1 b q,Ext w0.heap.size X S0 S1/\x=.pointer (some ⟨b,0,none⟩)/\Q S1 (.agg q)/\Inv w0 X (A++[.blk b (.cells q Tn)]) S1 w:=by
 obtain ⟨S1,b,q,h1,_,_,h4,_,_,h7,h8⟩:=h
 exact ⟨S1,b,q,h1,h4 rfl,h7 rfl,h8.2⟩
theorem anP.res (h:anP w0 X A e k R xs y S0 Tn z Q d5 db da ds v0 v1 v5 v2 vb x w 3):∃ a m,v2=.slice a (xs++[y]).length m:=by
 obtain ⟨S1,b,q,_,_,_,_,_,_,_,⟨a,m,rfl,_⟩,_⟩:=h
 exact ⟨a,m,rfl⟩
theorem anP.bld (h:anP w0 X A e k R xs y S0 Tn z Q d5 db da ds v0 v1 v5 v2 vb x w 3) {vb':Value} (hQ:∀ S1,Ext w0.heap.size X S0 S1->RdSl S1 k (R S1) v2 (xs++[y])->Q S1 vb'):anP w0 X A e k R xs y S0 Tn z Q d5 true da ds v0 v1 v5 v2 vb' x w 3:=by
 obtain ⟨S1,b,q,h1,h2,_,h4,h5,h6,h7,h8,h9⟩:=h
 exact ⟨S1,b,q,h1,h2,fun _=>hQ S1 h1 h8,h4,h5,h6,h7,h8,h9⟩
theorem anP.val (h:anP w0 X A e k R xs y S0 Tn z Q d5 db da ds v0 v1 v5 v2 vb x w n) (hd:db=true):∃ S1,Q S1 vb:=by
 obtain ⟨S1,b,q,_,_,h3,_⟩:=h
 exact ⟨S1,h3 hd⟩
theorem an0 {T:TypeId} {by_:Nat} {zv:Value} (h:anP w0 X A e k R xs y S0 Tn z Q d5 db da ds v0 v1 v5 v2 vb x w 0) (hT:fb P T=some (e,k,by_,zv))
  (hk:∀ v w',anP w0 X A e k R xs y S0 Tn z Q d5 db da ds v v1 v5 v2 vb x w' 1->K v w'):Run P (bi T 0 []) w K:=by
 obtain ⟨S1,b,q,h1,h2,h3,h4,h5,h6,h7,h8⟩:=h
 exact Qg h8 hT fun v w' h=>hk v w' ⟨S1,b,q,h1,h2,h3,h4,h5,h6,h7,h⟩
theorem an3 {T ty:TypeId} {by_:Nat} {zv u:Value} {cs:List Bool} (hR:∀ S S' cs x,Sle S S'->R S cs x->R S' cs x) (h:anP w0 X A e k R xs y S0 Tn z Q d5 db da ds v0 v1 v5 v2 vb x w 1) (hT:fb P T=some (e,k,by_,zv)) (hk0:0<k) (hu:RdSl S0 k (R S0) u xs)
  (hlen:∀ S cs y,R S cs y->cs.length=k) (ho:∀ S cs y,R S cs y->∀ c∈cs,c.oneCell'=true) (hl:xs.length<=4294967296) (hby:by_<=32768)
  (hk:∀ v w',anP w0 X A e k R xs y S0 Tn z Q d5 db da ds v0 v v5 v2 vb x w' 2->K v w'):Run P (bx .append #[T,T] ty cs [v0,u]) w K:=by
 obtain ⟨S1,b,q,h1,h2,h3,h4,h5,h6,h7,h8⟩:=h
 exact PM h8 hT hk0 (hu.mono h1.1 fun _ _ h=>hR _ _ _ _ h1.1 h) (hlen S1) (ho S1) hl hby fun v w' h=>hk v w' ⟨S1,b,q,h1,h2,h3,h4,h5,h6,h7,h⟩
theorem an5 {T:TypeId} {by_:Nat} {zv:Value} {cs:List Value} (hR:∀ S S' cs x,Sle S S'->R S cs x->R S' cs x) (hQ:∀ S S' v,Sle S S'->Q S v->Q S' v) (h:anP w0 X A e k R xs y S0 Tn z Q d5 db da ds v0 v1 v5 v2 vb x w n) (hT:fb P T=some (e,k,by_,zv)) (hk0:0<k) (hk24:k<=65536)
  {v:Value} (hvc:v.cells=cs.toArray) (hy:R S0 cs y) (hlen:∀ S cs y,R S cs y->cs.length=k)
  (hk:∀ v w',anP w0 X A e k R xs y S0 Tn z Q true db da ds v0 v1 v v2 vb x w' n->K v w'):Run P (bi T 1 [(0,v)]) w K:=by
 obtain ⟨S1,bb,q,h1,h2,h3,h4,h5,h6,h7,h8⟩:=h
 obtain ⟨B,hI,hback⟩:=h8.ex hR
 have hl:=hlen _ _ _ hy
 refine dH hI hT (by rw [hvc]; simpa using hl) hk24 hk0 fun b w' hI=>?_
 obtain ⟨S2,hI,hE,hb⟩:=Inv.pub1 hI
 rw [hvc] at hb
 exact hk _ w' ⟨S2,bb,q,h1.trans hE,fun _=>RdSl.single hb hl (hR _ _ _ _ (h1.trans hE).1 hy),fun e=>hQ _ _ _ hE.1 (h3 e),h4,h5,h6,fun e=>hQ _ _ _ hE.1 (h7 e),hback _ S2 w' hE.1 hI⟩
theorem an6 {T ty:TypeId} {by_:Nat} {zv:Value} {cs:List Bool} (hR:∀ S S' cs x,Sle S S'->R S cs x->R S' cs x) (hQ:∀ S S' v,Sle S S'->Q S v->Q S' v) (h:anP w0 X A e k R xs y S0 Tn z Q d5 db da ds v0 v1 v5 v2 vb x w 2) (hd:d5=true) (hT:fb P T=some (e,k,by_,zv)) (hk0:0<k)
  (hlen:∀ S cs y,R S cs y->cs.length=k) (ho:∀ S cs y,R S cs y->∀ c∈cs,c.oneCell'=true) (hl:xs.length+1<=4294967296) (hby:by_<=32768)
  (hk:∀ v w',anP w0 X A e k R xs y S0 Tn z Q d5 db da ds v0 v1 v5 v vb x w' 3->K v w'):Run P (bx .append #[T,T] ty cs [v1,v5]) w K:=by
 obtain ⟨S1,b,q,h1,h2,h3,h4,h5,h6,h7,h8⟩:=h
 exact P7 hR h8 hT hk0 (h2 hd) (hlen S1) (ho S1) hl hby fun v S' w' hE h=>hk v w' ⟨S',b,q,h1.trans hE,fun e=>(h2 e).mono hE.1 fun _ _ h=>hR _ _ _ _ hE.1 h,fun e=>hQ _ _ _ hE.1 (h3 e),h4,h5,h6,fun e=>hQ _ _ _ hE.1 (h7 e),h⟩
theorem anP.alloc {ty:TypeId} {zv:Value} (hR:∀ S S' cs x,Sle S S'->R S cs x->R S' cs x) (h:anP w0 X A e k R xs y S0 Tn z Q d5 db da ds v0 v1 v5 v2 vb x w n) (hd:da=false) (hz:g8 P Tn=some zv) (hzc:zv.cells=z)
  (hk:∀ v w',anP w0 X A e k R xs y S0 Tn z Q d5 db true ds v0 v1 v5 v2 vb v w' n->K v w'):Run P (sOp (.alloc Tn) ty) w K:=by
 obtain ⟨S1,b,q,h1,h2,h3,h4,h5,h6,h7,h8⟩:=h
 have hds:ds=false:=Bool.eq_false_iff.2 fun e=>by rw [h5 e] at hd; cases hd
 rw [hd,cond_false,List.append_nil] at h8
 obtain ⟨B,hI,hback⟩:=h8.ex hR
 refine aA hI hz fun b w' hI=>hk _ w' ⟨S1,b,z,h1,h2,h3,fun _=>rfl,fun _=>rfl,fun _=>rfl,fun e=>(by rw [hds] at e; cases e),?_⟩
 rw [cond_true,<- hzc]
 refine hback _ S1 w' (Sle.refl _) (hI.perm ?_)
 rw [List.append_assoc,List.append_assoc]
 exact List.Perm.append_left _ List.perm_append_comm
theorem anP.store {ty:TypeId} {m:Nat} {cs:Array Value} (hR:∀ S S' cs x,Sle S S'->R S cs x->R S' cs x) (h:anP w0 X A e k R xs y S0 Tn z Q d5 db da ds v0 v1 v5 v2 vb x w n) (hd:da=true) (hs:ds=false) (hT:jV P Tn=some m) (hn:cs.size=m) (hz:z.size=m)
  (h1c:∀ u∈cs.toList,u.oneCell'=true) (hdb:db=true) (hvb:vb=.agg cs)
  (hk:∀ w',anP w0 X A e k R xs y S0 Tn z Q d5 db da true v0 v1 v5 v2 vb x w' n->K undef w'):Run P (sOp (.store Tn (.const x) (.const (.agg cs))) ty) w K:=by
 obtain ⟨S1,b,q,h1,h2,h3,h4,h5,h6,h7,h8⟩:=h
 rw [hd,cond_true,h6 hs] at h8
 rw [h4 hd]
 obtain ⟨B,hI,hback⟩:=h8.ex hR
 have hi:(A++[Item.blk b (.cells z Tn)]++B)[A.length]?=some (.blk b (.cells z Tn)):=by simp
 refine aj (E:=Tn) hI A.length hi hT hn hz h1c fun w' hI=>?_
 have e2:(A++[Item.blk b (.cells z Tn)]++B).set A.length (.blk b (.cells cs Tn))=A++[.blk b (.cells cs Tn)]++B:=by simp
 rw [e2] at hI
 refine hk w' ⟨S1,b,cs,h1,h2,h3,h4,fun _=>hd,fun e=>(by cases e),fun _=>hvb ▸ h3 hdb,?_⟩
 rw [hd,cond_true]
 exact hback _ S1 w' (Sle.refl _) hI
end
end
section
open Go Go.RowKit
abbrev zSe:Array Value:=#[.slice none 0 0,.slice none 0 0,.slice none 0 0,.slice none 0 0,.slice none 0 0]
def Pm (s:Se) (o:Option Se):Value->List Item->ae->Prop:=fun q I' S'=>I'=[]/\∃ cs:List Value,q=.tuple #[.agg cs.toArray,.bool o.isSome]/\RdSe S' cs (o.getD s)
theorem Qo {a b c d e:Value}:∀ (j:Nat) (v:Value),([a,b,c]:List Value)[j]?=some v->(#[a,b,c,d,e]:Array Value)[0+j]?=some v
 | 0,v,h=>by simpa using h
 | 1,v,h=>by simpa using h
 | 2,v,h=>by simpa using h
 | n+3,v,h=>by simp at h
theorem Mh {a b c d e:Value} (h1:a.oneCell'=true) (h2:b.oneCell'=true) (h3:c.oneCell'=true) (h4:d.oneCell'=true) (h5:e.oneCell'=true):∀ x∈(#[a,b,c,d,e]:Array Value).toList,x.oneCell'=true:=by
 intro x hx
 simp only [List.mem_cons,List.not_mem_nil,or_false] at hx
 rcases hx with rfl|rfl|rfl|rfl|rfl <;> assumption
section
attribute [local irreducible] Run CondV ar aI
set_option maxHeartbeats 4000000 in
theorem qy {p:List C} (hp:∀ cl∈p,sV cl) {k:Nat} (hk:k<=1000) {c:Ch} (hc:iZ c) (hr:okRk k c) {s:Se} {o:Option Se} (h:TakeR p s c o) (hn:s.st.chs.length<=1000) (hn2:s.steps.length<=1000) (hn3:s.saved.length<=1000)
  {S:ae} {u:Value} {ss cs:List Value} (hP:RdSl S 5 (RdC S) u p) (hs:RdSe S ss s) (hcc:RdCh S cs c):Tri Tryz.prog FG [u,.agg ss.toArray,.agg cs.toArray] [] S (Pm s o):=by
 intro w hI
 obtain ⟨gs,sb,sc,st,sv,rfl,hsg,hsb,hsc,hst,hsv⟩:=id hs
 obtain ⟨sca,scc,rfl,_⟩:=id hsc
 obtain ⟨sta,stc,rfl,_⟩:=id hst
 obtain ⟨sva,svc,rfl,_⟩:=id hsv
 obtain ⟨pa,pcap,rfl,_⟩:=id hP
 obtain ⟨hd,rv,lv,bv,rfl,hgo,hre,hle,hbi⟩:=id hcc
 have hgo0:=hgo
 obtain ⟨kv,rfl,_⟩:=RdT.iff.1 hgo
 refine tE.2 ?_
 dsimp only[tE,cM]
 refine be hI fun b4 w' hI=>?_
 refine be hI fun b5 w' hI=>?_
 refine aA hI cU fun b6 w' hI=>?_
 obtain ⟨B4,hB4⟩:∃ B:Item,B=.blk b4 (.cells #[gs,sb,.slice sca s.st.chs.length scc,.slice sta s.steps.length stc,.slice sva s.saved.length svc] az):=⟨_,rfl⟩
 obtain ⟨B5,hB5⟩:∃ B:Item,B=.blk b5 (.cells #[.int .i64 c.goal.kind,.int .i64 c.goal.n,.string c.goal.name,kv,rv,lv,bv] bM):=⟨_,rfl⟩
 obtain ⟨B6,hB6⟩:∃ B:Item,B=.blk b6 (.cells zSe az):=⟨_,rfl⟩
 have e4:=congrArg some hB4
 have e5:=congrArg some hB5
 have e6:=congrArg some hB6
 have hI:Inv w [] [B4,B5,B6] S w':=by rw [hB4,hB5,hB6]; exact hI
 have hs6:RdS6 S [gs,sb,.slice sca s.st.chs.length scc] s.st:=⟨_,_,_,rfl,hsg,hsb,hsc⟩
 obtain ⟨o1,hF,ho⟩:∃ o1,FirstL p s.st.chs c c.left o1/\((o1=none/\o=none) ∨ ∃ u i l,o1=some (u,i,l)/\o=some (gF p s c u i l)):=by
  cases h with
  | no h=>exact ⟨_,h,.inl ⟨rfl,rfl⟩⟩
  | yes h=>exact ⟨_,h,.inr ⟨_,_,_,rfl,rfl⟩⟩
 refine ao bp ?_
 refine b0 hI 0 [gs,sb,.slice sca s.st.chs.length scc] bC e4 rfl Qo ?_
 refine ag hI 1 cK e5 rfl ?_
 refine Run.call0E Af Ap hI (zR hp hk hc hr hF hn hP hs6 hcc) fun v' I' S1 w'=>?_
 rintro ⟨rfl,ns,lv1,rfl,hns,hl1⟩ hE hI
 have hI:Inv w [] [B4,B5,B6] S1 w':=hI
 have hl3:=hns.length
 refine ai (v:=.agg ns.toArray) rfl ?_
 refine ai (v:=.int .i64 (o1.elim (-1) (·.2.1))) rfl ?_
 refine ai (v:=lv1) rfl ?_
 refine ai (v:=.bool o1.isSome) rfl ?_
 refine aA hI fg fun b8 w' hI=>?_
 have hI:Inv w [] [B4,B5,B6,.blk b8 (.cells zSt bt)] S1 w':=hI
 refine aj hI 3 rfl bC (by simpa using hl3) rfl (by simpa using hns.one) fun w' hI=>?_
 have hI:Inv w [] [B4,B5,B6,.blk b8 (.cells ns.toArray bt)] S1 w':=hI
 refine bW ?_
 rcases ho with ⟨rfl,rfl⟩|⟨u1,i,l,rfl,rfl⟩
 ·refine av (fun _=>?_) (fun hb=>by cases hb)
  refine ag hI 0 aJ e4 rfl ?_
  refine aj (cs:=#[gs,sb,.slice sca s.st.chs.length scc,.slice sta s.steps.length stc,.slice sva s.saved.length svc]) hI 2 e6 aJ rfl rfl (by simpa using hs.one) fun w' hI=>?_
  refine aS hI 2 aJ rfl rfl ?_
  exact ⟨_,[],S1,rfl,hI.nil,hE,rfl,_,rfl,hs.mono hE.1⟩
 refine av (fun hb=>by cases hb) (fun _=>?_)
 simp only [Option.elim_some] at hns hl1 ⊢
 obtain ⟨n,cl,stt,rfl,hcl,hu1,_⟩:=hF.of _ _ _ rfl
 obtain ⟨gu,bu,cu,rfl,hgu,hbu,hcu⟩:=hns
 have hnp:n<p.length:=(List.getElem?_eq_some_iff.1 hcl).1
 have hpc:p[n]=cl:=(List.getElem?_eq_some_iff.1 hcl).2
 have hm:=hp cl (List.mem_of_getElem? hcl)
 have hln:=hm.ln
 obtain ⟨pb,po,pc2,pc,pE,pfz,hpv,hpS,hpR⟩:=hP.at_ hnp
 have hpa:pa=some ⟨pb,po,none⟩:=by
  simp only [Value.slice.injEq] at hpv
  exact hpv.1
 rw [hpc] at hpR
 obtain ⟨kv1,kb1,hce,hh,hb⟩:=hpR.cells
 have hcell:pc[po+n * 5+4]?=some kb1:=aD hce 4 _ rfl
 have hpS1:=hE.1 _ _ hpS
 obtain ⟨kba,kbc,rfl,_⟩:=id hb
 have hix:∀ {ty:TypeId} {K:Value->World->Prop} {w':World},K (.pointer (some ⟨pb,po+n * 5,none⟩)) w'->Run Tryz.prog (sOp (.indexAddr I7 (.const (.slice pa p.length pcap)) (.const (.int .i64 (n:Int)))) ty) w' K:=fun hk=>by rw [hpa]; exact ay fT hnp hk
 obtain ⟨B8,hB8⟩:∃ B:Item,B=.blk b8 (.cells #[gu,bu,cu] bt):=⟨_,rfl⟩
 have e8:=congrArg some hB8
 have hI:Inv w [] [B4,B5,B6,B8] S1 w':=by rw [hB8]; exact hI
 obtain ⟨sp,hsp⟩:∃ sp:Sp,sp=⟨c.goal,(n:Int),(cl.body.length:Int)⟩:=⟨_,rfl⟩
 have hspr:RdSp S1 [.int .i64 c.goal.kind,.int .i64 c.goal.n,.string c.goal.name,kv,.int .i64 (n:Int),.int .i64 (cl.body.length:Int)] sp:=by
  rw [hsp]
  exact ⟨_,rfl,hgo0.mono hE.1⟩
 have hst1:=hst.monoSp hE.1
 refine ⟨fun D Oy nU mf kB iE jb iD lX gD fN kJ gU iI nC jT mP iM ia iF fC kl w_=>Fx D 0 [kl=.agg #[gu,bu,cu],True,iF=.pointer (some ⟨b4,3,none⟩),ia=.slice sta s.steps.length stc,True,mP=.pointer (some ⟨b5,0,none⟩),jT=.agg #[.int .i64 c.goal.kind,.int .i64 c.goal.n,.string c.goal.name,kv],nC=.int .i64 (n:Int),iI=.slice pa p.length pcap,gU=.int .i64 (n:Int),kJ=.pointer (some ⟨pb,po+n * 5,none⟩),fN=.pointer (some ⟨pb,po+n * 5+4,none⟩),gD=.slice kba cl.body.length kbc,lX=.int .i64 (cl.body.length:Int),iD=.agg #[.int .i64 c.goal.kind,.int .i64 c.goal.n,.string c.goal.name,kv,.int .i64 (n:Int),.int .i64 (cl.body.length:Int)],True,True,kB=.pointer (some ⟨b4,4,none⟩),mf=.slice sva s.saved.length svc,True,True,True]/\∃ n_:Nat,n_<=3/\D 1=decide (1<=n_)/\D 4=decide (2<=n_)/\D 16=decide (3<=n_)/\(anP w [] [B4,B5,B6,B8] fO 6 RdSp s.steps sp S1 az zSe (fun S v=>∃ u,v=.agg #[gu,bu,cu,u,.slice sva s.saved.length svc]/\RdSl S 6 (RdSp S) u (s.steps++[sp])) (D 15) (D 19) (D 20) (D 21) fC iM jb iE nU Oy w_ n_),⟨Fx.nil _ _,⟨0,Nat.zero_le _,rfl,rfl,rfl,anP.mk hI.draw _ _ _ _ _ _⟩⟩,⟨?_,?_,?_,?_,?_,?_,?_,?_,?_,?_,?_,?_,?_,?_,?_,?_,?_,?_,?_,?_,?_,?_,trivial⟩,?_⟩
 all_goals (intro D bw; intros; rename_i Oy nU mf kB iE jb iD lX gD fN kJ gU iI nC jT mP iM ia iF fC kl w_ hA_; have hF_:=hA_.1; obtain ⟨⟨bQ,bS,bU,bR,bY,bZ,bO,cG,cS,cT,bL,co,cO,dJ,dT,dY,ew,dK,fy,dV,eL,jU,_⟩,⟨n_,ln_,e1_,e2_,e3_,hS⟩⟩:=hA_)
 ·obtain ⟨S2,R,hE2,hI⟩:=hS.inv; refine ag hI 3 bC e8 rfl ?_
  exact ⟨hF_.set 0 rfl,⟨n_,ln_,e1_,e2_,e3_,hS⟩⟩
 ·obtain rfl:n_=0:=xr e1_ bw
  refine an0 hS dR fun v w_ hS=>?_
  exact ⟨hF_.set 1 (by first|assumption|trivial),⟨1,by decide,rfl,(by first|exact e2_|rfl),(by first|exact e3_|rfl),hS⟩⟩
 ·refine ao eO ?_
  exact ⟨hF_.set 2 rfl,⟨n_,ln_,e1_,e2_,e3_,hS⟩⟩
 ·obtain rfl:=bU ‹_›
  obtain ⟨S2,R,hE2,hI⟩:=hS.inv; refine ax hI 0 fp e4 rfl ?_
  exact ⟨hF_.set 3 rfl,⟨n_,ln_,e1_,e2_,e3_,hS⟩⟩
 ·have Q1:=bS ‹_›
  obtain rfl:=bR ‹_›
  obtain rfl:n_=1:=fZ e1_ ‹D 1=true› e2_ bw
  refine an3 spM hS dR (by omega) hst1 spL spO (by omega) (by omega) fun v w_ hS=>?_
  exact ⟨hF_.set 4 (by first|assumption|trivial),⟨2,by decide,(by first|exact e1_|rfl),rfl,(by first|exact e3_|rfl),hS⟩⟩
 ·refine ao ju ?_
  exact ⟨hF_.set 5 rfl,⟨n_,ln_,e1_,e2_,e3_,hS⟩⟩
 ·obtain rfl:=bZ ‹_›
  obtain ⟨S2,R,hE2,hI⟩:=hS.inv; refine b0 hI 1 [.int .i64 c.goal.kind,.int .i64 c.goal.n,.string c.goal.name,kv] ac e5 rfl Mk ?_
  exact ⟨hF_.set 6 rfl,⟨n_,ln_,e1_,e2_,e3_,hS⟩⟩
 ·exact ⟨hF_.set 7 rfl,⟨n_,ln_,e1_,e2_,e3_,hS⟩⟩
 ·exact ⟨hF_.set 8 rfl,⟨n_,ln_,e1_,e2_,e3_,hS⟩⟩
 ·exact ⟨hF_.set 9 rfl,⟨n_,ln_,e1_,e2_,e3_,hS⟩⟩
 ·obtain rfl:=cS ‹_›
  obtain rfl:=cT ‹_›
  refine hix ?_
  exact ⟨hF_.set 10 rfl,⟨n_,ln_,e1_,e2_,e3_,hS⟩⟩
 ·obtain rfl:=bL ‹_›
  refine ao cC ?_
  exact ⟨hF_.set 11 rfl,⟨n_,ln_,e1_,e2_,e3_,hS⟩⟩
 ·obtain rfl:=co ‹_›
  obtain ⟨S2,R,hE2,hI⟩:=hS.inv; refine dd al ((hI.cellS (hE2.1 _ _ hpS1)).trans hcell) ?_
  exact ⟨hF_.set 12 rfl,⟨n_,ln_,e1_,e2_,e3_,hS⟩⟩
 ·obtain rfl:=cO ‹_›
  refine dL ah ?_
  exact ⟨hF_.set 13 rfl,⟨n_,ln_,e1_,e2_,e3_,hS⟩⟩
 ·obtain rfl:=bO ‹_›
  obtain rfl:=cG ‹_›
  obtain rfl:=dJ ‹_›
  refine KR ?_
  exact ⟨hF_.set 14 rfl,⟨n_,ln_,e1_,e2_,e3_,hS⟩⟩
 ·obtain rfl:=dT ‹_›
  refine an5 spM (fun _ _ _ hs hq=>hq.imp fun _ h=>⟨h.1,h.2.monoSp hs⟩) hS dR (by omega) (by omega) rfl hspr spL fun v w_ hS=>?_
  exact ⟨hF_.set 15 (by first|assumption|trivial),⟨n_,ln_,e1_,e2_,e3_,hS⟩⟩
 ·have Oi:=bY ‹_›
  have KI:=dY ‹_›
  obtain rfl:n_=2:=fZ e2_ ‹D 4=true› e3_ bw
  refine an6 spM (fun _ _ _ hs hq=>hq.imp fun _ h=>⟨h.1,h.2.monoSp hs⟩) hS ‹D 15=true› dR (by omega) spL spO (by omega) (by omega) fun v w_ hS=>?_
  exact ⟨hF_.set 16 (by first|assumption|trivial),⟨3,by decide,(by first|exact e1_|rfl),(by first|exact e2_|rfl),rfl,hS⟩⟩
 ·refine ao eM ?_
  exact ⟨hF_.set 17 rfl,⟨n_,ln_,e1_,e2_,e3_,hS⟩⟩
 ·obtain rfl:=dK ‹_›
  obtain ⟨S2,R,hE2,hI⟩:=hS.inv; refine ax hI 0 fE e4 rfl ?_
  exact ⟨hF_.set 18 rfl,⟨n_,ln_,e1_,e2_,e3_,hS⟩⟩
 ·obtain rfl:=bQ ‹_›
  have Ol:=ew ‹_›
  obtain rfl:=fy ‹_›
  have hn3:=lU ln_ e3_ ‹D 16=true›
  rw [hn3] at hS
  obtain ⟨ra,rm,hx43⟩:=hS.res
  rw [hx43]
  refine BA ?_
  have hS:=hS.bld (vb':=.agg #[gu,bu,cu,iE,.slice sva s.saved.length svc]) fun S2 _ h=>⟨_,rfl,h⟩
  rw [hx43] at hS
  rw [<- hn3] at hS
  exact ⟨hF_.set 19 (by first|assumption|trivial),⟨n_,ln_,e1_,e2_,e3_,hS⟩⟩
 ·refine anP.alloc spM hS bw cU rfl fun v w_ hS=>?_
  exact ⟨hF_.set 20 (by first|assumption|trivial),⟨n_,ln_,e1_,e2_,e3_,hS⟩⟩
 ·have QZ:=eL ‹_›
  have Q0:=dV ‹_›
  obtain ⟨S2,uu,rfl,huu⟩:=hS.val ‹D 19=true›
  refine anP.store spM hS ‹D 20=true› bw aJ rfl rfl (Mh hgu.sl hbu.sl hcu.sl huu.sl rfl) ‹D 19=true› rfl fun w_ hS=>?_
  exact ⟨hF_.set 21 trivial,⟨n_,ln_,e1_,e2_,e3_,hS⟩⟩
 obtain rfl:n_=3:=lU ln_ e3_ ‹D 16=true›
 have QR:D 20=true:=by assumption
 have QD:D 21=true:=by assumption
 clear e1_ e2_ e3_
 rw [QR,QD] at hS
 obtain ⟨S2,b12,q12,hE2,rfl,⟨su,hq12,hsu⟩,hI⟩:=hS.fin
 obtain rfl:=Value.agg.inj hq12
 have hE02:=hE.trans hE2
 have hcu0:RdSl S2 7 (RdCh S2) cu s.st.chs:=by
  have:=hcu.monoCh hE2.1
  rw [hu1] at this
  simpa only [jZ,if_pos,List.append_nil] using this
 obtain ⟨cua,cuc,rfl,_⟩:=id hcu0
 refine ⟨fun w'=>∃ S5 cc vv,Ext w.heap.size [] S2 S5/\RdSl S5 7 (RdCh S5) cc (s.st.chs++(if l=[] then [] else [⟨c.goal,c.rest,l,c.binds⟩]))/\RdSl S5 1 (RdVS S5) vv (s.saved++(if l=[] then [] else [s.steps]))/\
  Inv w [] [B4,B5,B6,B8,.blk b12 (.cells #[gu,bu,cc,su,vv] az)] S5 w',?_,?_⟩
 ·refine aK hl1 cW ?_
  refine cY ?_
  refine aN (fun hmo=>?_) (fun hmo=>?_)
  ·have hne:l≠[]:=fun e=>by rw [e] at hmo; simp at hmo
   rw [if_neg hne,if_neg hne]
   obtain ⟨mc,hmc⟩:∃ mc:Ch,mc=⟨c.goal,c.rest,l,c.binds⟩:=⟨_,rfl⟩
   rw [<- hmc]
   have hI:Inv w [] [B4,B5,B6,B8,.blk b12 (.cells #[gu,bu,.slice cua s.st.chs.length cuc,su,.slice sva s.saved.length svc] az)] S2 w_:=hI
   refine ag hI 1 cK e5 rfl ?_
   refine aA hI i7 fun b13 w' hI=>?_
   have hI:Inv w [] [B4,B5,B6,B8,.blk b12 (.cells #[gu,bu,.slice cua s.st.chs.length cuc,su,.slice sva s.saved.length svc] az),.blk b13 (.cells zCh bM)] S2 w':=hI
   refine aj hI 5 rfl cK rfl rfl (by simpa using hcc.one) fun w' hI=>?_
   refine cP hI 5 rfl cI hK rfl (by obtain ⟨a,m,rfl,_⟩:=hl1; rfl) hl1.sl fun w' hI=>?_
   obtain ⟨B13,hB13⟩:∃ B:Item,B=.blk b13 (.cells #[.int .i64 c.goal.kind,.int .i64 c.goal.n,.string c.goal.name,kv,rv,lv1,bv] bM):=⟨_,rfl⟩
   have e13:=congrArg some hB13
   have hI:Inv w [] ([B4,B5,B6,B8,B13]++[.blk b12 (.cells #[gu,bu,.slice cua s.st.chs.length cuc,su,.slice sva s.saved.length svc] az)]) S2 w':=by
    rw [hB13]
    exact hI.perm ((((List.Perm.swap _ _ _).cons _).cons _).cons _ |>.cons _)
   have hmr:RdCh S2 [.int .i64 c.goal.kind,.int .i64 c.goal.n,.string c.goal.name,kv,rv,lv1,bv] mc:=by
    rw [hmc]
    exact ⟨_,_,_,_,rfl,hgo0.mono hE02.1,hre.monoG hE02.1,hl1.mono hE2.1 fun _ _ h=>h,hbi.monoO hE02.1⟩
   have hsc2:=hsc.monoCh hE02.1
   refine ⟨fun D xL xY xN xJ wH ta uy u4 tC pu w_=>Fx D 0 [True,tC=.pointer (some ⟨b4,0,none⟩),u4=.pointer (some ⟨b4,2,none⟩),uy=.slice sca s.st.chs.length scc,True,wH=.agg #[.int .i64 c.goal.kind,.int .i64 c.goal.n,.string c.goal.name,kv,rv,lv1,bv],True,True,xY=.pointer (some ⟨b12,0,none⟩),xL=.pointer (some ⟨b12,2,none⟩),True]/\∃ n_:Nat,n_<=3/\D 0=decide (1<=n_)/\D 4=decide (2<=n_)/\D 7=decide (3<=n_)/\(apP w [] (fun cv=>[B4,B5,B6,B8,B13]++[.blk b12 (.cells #[gu,bu,cv,su,.slice sva s.saved.length svc] az)]) (.slice cua s.st.chs.length cuc) bM 7 RdCh s.st.chs mc S2 (D 6) (D 10) pu ta xJ xN w_ n_),⟨Fx.nil _ _,⟨0,Nat.zero_le _,rfl,rfl,rfl,apP.mk hI.draw _ _ _ _⟩⟩,⟨?_,?_,?_,?_,?_,?_,?_,?_,?_,?_,?_,trivial⟩,?_⟩
   all_goals (intro D bw; intros; rename_i xL xY xN xJ wH ta uy u4 tC pu w_ hA_; have hF_:=hA_.1; obtain ⟨⟨bQ,bS,bU,bR,bY,bZ,bO,cG,cS,cT,bL,_⟩,⟨n_,ln_,e1_,e2_,e3_,hS⟩⟩:=hA_)
   ·obtain rfl:n_=0:=xr e1_ bw
    refine NZ hS dE fun v w_ hS=>?_
    exact ⟨hF_.set 0 (by first|assumption|trivial),⟨1,by decide,rfl,(by first|exact e2_|rfl),(by first|exact e3_|rfl),hS⟩⟩
   ·refine ao bp ?_
    exact ⟨hF_.set 1 rfl,⟨n_,ln_,e1_,e2_,e3_,hS⟩⟩
   ·obtain rfl:=bS ‹_›
    refine ao cJ ?_
    exact ⟨hF_.set 2 rfl,⟨n_,ln_,e1_,e2_,e3_,hS⟩⟩
   ·obtain rfl:=bU ‹_›
    obtain ⟨S5,cv,R,hE5,hI⟩:=hS.inv; refine ax hI 0 cH e4 rfl ?_
    exact ⟨hF_.set 3 rfl,⟨n_,ln_,e1_,e2_,e3_,hS⟩⟩
   ·have QA:=bQ ‹_›
    obtain rfl:=bR ‹_›
    obtain rfl:n_=1:=fZ e1_ ‹D 0=true› e2_ bw
    refine MU chM hS dE (by omega) hsc2 chL chO (by omega) (by omega) fun v w_ hS=>?_
    exact ⟨hF_.set 4 (by first|assumption|trivial),⟨2,by decide,(by first|exact e1_|rfl),rfl,(by first|exact e3_|rfl),hS⟩⟩
   ·obtain ⟨S5,cv,R,hE5,hI⟩:=hS.inv; refine ag hI 4 cK e13 rfl ?_
    exact ⟨hF_.set 5 rfl,⟨n_,ln_,e1_,e2_,e3_,hS⟩⟩
   ·obtain rfl:=bZ ‹_›
    refine Nj chM hS dE (by omega) (by omega) rfl hmr chL fun v w_ hS=>?_
    exact ⟨hF_.set 6 (by first|assumption|trivial),⟨n_,ln_,e1_,e2_,e3_,hS⟩⟩
   ·have Oi:=bY ‹_›
    have JZ:=bO ‹_›
    obtain rfl:n_=2:=fZ e2_ ‹D 4=true› e3_ bw
    refine N9 chM hS ‹D 6=true› dE (by omega) chL chO (by omega) (by omega) fun v w_ hS=>?_
    exact ⟨hF_.set 7 (by first|assumption|trivial),⟨3,by decide,(by first|exact e1_|rfl),(by first|exact e2_|rfl),rfl,hS⟩⟩
   ·refine ao bp ?_
    exact ⟨hF_.set 8 rfl,⟨n_,ln_,e1_,e2_,e3_,hS⟩⟩
   ·obtain rfl:=cS ‹_›
    refine ao cJ ?_
    exact ⟨hF_.set 9 rfl,⟨n_,ln_,e1_,e2_,e3_,hS⟩⟩
   ·obtain rfl:=cT ‹_›
    have GO:=cG ‹_›
    have hn3:=lU ln_ e3_ ‹D 7=true›
    have hS3:=hS
    rw [hn3] at hS3
    rw [bw] at hS3
    refine ND (C:=fun cv=>#[gu,bu,cv,su,.slice sva s.saved.length svc]) (fun _=>rfl) hS3 cH (fun _ _=>rfl) (fun _=>show 2<5 by decide) fun w_ hS4=>?_
    have hS:apP w [] (fun cv=>[B4,B5,B6,B8,B13]++[.blk b12 (.cells #[gu,bu,cv,su,.slice sva s.saved.length svc] az)]) (.slice cua s.st.chs.length cuc) bM 7 RdCh s.st.chs mc S2 (aB D 10 6) (aB D 10 10) pu ta xJ xN w_ n_:=by rw [hn3]; exact hS4
    exact ⟨hF_.set 10 trivial,⟨n_,ln_,e1_,e2_,e3_,hS⟩⟩
   obtain rfl:n_=3:=lU ln_ e3_ ‹D 7=true›
   have Ac:D 10=true:=by assumption
   clear e1_ e2_ e3_
   rw [Ac] at hS
   obtain ⟨S5,cc,hE5,hcc5,hI⟩:=hS.fin
   have hE05:=hE02.trans hE5
   have hsv5:=hsv.monoVS hE05.1
   have hys:RdVS S5 [.slice sta s.steps.length stc] s.steps:=⟨_,rfl,hst.monoSp hE05.1⟩
   refine ⟨fun D Ld K0 K4 P4 PX PK JT FL AA w_=>Fx D 0 [True,FL=.pointer (some ⟨b4,4,none⟩),JT=.slice sva s.saved.length svc,True,PX=.pointer (some ⟨b4,3,none⟩),P4=.slice sta s.steps.length stc,True,True,Ld=.pointer (some ⟨b12,4,none⟩),True]/\∃ n_:Nat,n_<=3/\D 0=decide (1<=n_)/\D 3=decide (2<=n_)/\D 7=decide (3<=n_)/\(apP w [] (fun cv=>[B4,B5,B6,B8,B13]++[.blk b12 (.cells #[gu,bu,cc,su,cv] az)]) (.slice sva s.saved.length svc) oi 1 RdVS s.saved s.steps S5 (D 6) (D 9) AA PK K4 K0 w_ n_),⟨Fx.nil _ _,⟨0,Nat.zero_le _,rfl,rfl,rfl,apP.mk hI.draw _ _ _ _⟩⟩,⟨?_,?_,?_,?_,?_,?_,?_,?_,?_,?_,trivial⟩,?_⟩
   all_goals (intro D bw; intros; rename_i Ld K0 K4 P4 PX PK JT FL AA w_ hA_; have hF_:=hA_.1; obtain ⟨⟨bQ,bS,bU,bR,bY,bZ,bO,cG,cS,cT,_⟩,⟨n_,ln_,e1_,e2_,e3_,hS⟩⟩:=hA_)
   ·obtain rfl:n_=0:=xr e1_ bw
    refine NZ hS ii fun v w_ hS=>?_
    exact ⟨hF_.set 0 (by first|assumption|trivial),⟨1,by decide,rfl,(by first|exact e2_|rfl),(by first|exact e3_|rfl),hS⟩⟩
   ·refine ao eM ?_
    exact ⟨hF_.set 1 rfl,⟨n_,ln_,e1_,e2_,e3_,hS⟩⟩
   ·obtain rfl:=bS ‹_›
    obtain ⟨S6,cv,R,hE6,hI⟩:=hS.inv; refine ax hI 0 fE e4 rfl ?_
    exact ⟨hF_.set 2 rfl,⟨n_,ln_,e1_,e2_,e3_,hS⟩⟩
   ·have QA:=bQ ‹_›
    obtain rfl:=bU ‹_›
    obtain rfl:n_=1:=fZ e1_ ‹D 0=true› e2_ bw
    refine MU vsM hS ii (by omega) hsv5 vsL vsO (by omega) (by omega) fun v w_ hS=>?_
    exact ⟨hF_.set 3 (by first|assumption|trivial),⟨2,by decide,(by first|exact e1_|rfl),rfl,(by first|exact e3_|rfl),hS⟩⟩
   ·refine ao eO ?_
    exact ⟨hF_.set 4 rfl,⟨n_,ln_,e1_,e2_,e3_,hS⟩⟩
   ·obtain rfl:=bY ‹_›
    obtain ⟨S6,cv,R,hE6,hI⟩:=hS.inv; refine ax hI 0 fp e4 rfl ?_
    exact ⟨hF_.set 5 rfl,⟨n_,ln_,e1_,e2_,e3_,hS⟩⟩
   ·obtain rfl:=bZ ‹_›
    refine Nj vsM hS ii (by omega) (by omega) rfl hys vsL fun v w_ hS=>?_
    exact ⟨hF_.set 6 (by first|assumption|trivial),⟨n_,ln_,e1_,e2_,e3_,hS⟩⟩
   ·have HG:=bR ‹_›
    have JZ:=bO ‹_›
    obtain rfl:n_=2:=fZ e2_ ‹D 3=true› e3_ bw
    refine N9 vsM hS ‹D 6=true› ii (by omega) vsL vsO (by omega) (by omega) fun v w_ hS=>?_
    exact ⟨hF_.set 7 (by first|assumption|trivial),⟨3,by decide,(by first|exact e1_|rfl),(by first|exact e2_|rfl),rfl,hS⟩⟩
   ·refine ao eM ?_
    exact ⟨hF_.set 8 rfl,⟨n_,ln_,e1_,e2_,e3_,hS⟩⟩
   ·obtain rfl:=cS ‹_›
    have GO:=cG ‹_›
    have hn3:=lU ln_ e3_ ‹D 7=true›
    have hS3:=hS
    rw [hn3] at hS3
    rw [bw] at hS3
    refine ND (C:=fun cv=>#[gu,bu,cc,su,cv]) (fun _=>rfl) hS3 fE (fun _ _=>rfl) (fun _=>show 4<5 by decide) fun w_ hS4=>?_
    have hS:apP w [] (fun cv=>[B4,B5,B6,B8,B13]++[.blk b12 (.cells #[gu,bu,cc,su,cv] az)]) (.slice sva s.saved.length svc) oi 1 RdVS s.saved s.steps S5 (aB D 9 6) (aB D 9 9) AA PK K4 K0 w_ n_:=by rw [hn3]; exact hS4
    exact ⟨hF_.set 9 trivial,⟨n_,ln_,e1_,e2_,e3_,hS⟩⟩
   obtain rfl:n_=3:=lU ln_ e3_ ‹D 7=true›
   have Fk:D 9=true:=by assumption
   clear e1_ e2_ e3_
   rw [Fk] at hS
   obtain ⟨S6,vv,hE6,hvv,hI⟩:=hS.fin
   exact ⟨S6,cc,vv,hE5.trans hE6,hcc5.monoCh hE6.1,hvv,hI.pick [true,true,true,true,false,true]⟩
  ·have hnil:l=[]:=List.eq_nil_of_length_eq_zero (by omega)
   rw [if_pos hnil,if_pos hnil,List.append_nil,List.append_nil]
   exact ⟨S2,_,_,Ext.refl _ _ _,hcu0,hsv.monoVS hE02.1,hI⟩
 intro _ _ _ _ _ _ _ _ _ _ _ _ _ _ _ _ _ _ _ _ _ _ _ _ _ _ w'
 rintro ⟨S5,cc,vv,hE5,hcc5,hvv,hI⟩
 have hE05:=hE02.trans hE5
 have hres:RdSe S5 [gu,bu,cc,su,vv] (gF p s c u1 n l):=by
  refine ⟨_,_,_,_,_,rfl,hgu.monoG (hE2.trans hE5).1,hbu.monoO (hE2.trans hE5).1,hcc5,?_,hvv⟩
  have e:(gF p s c u1 (n:Int) l).steps=s.steps++[sp]:=by
   rw [hsp]
   simp only [gF,Int.toNat_natCast,hcl,Option.elim_some]
  rw [e]
  exact hsu.monoSp hE5.1
 refine ag hI 4 aJ rfl rfl ?_
 refine aj (cs:=#[gu,bu,cc,su,vv]) hI 2 e6 aJ rfl rfl (by simpa using hres.one) fun w' hI=>?_
 refine aS hI 2 aJ rfl rfl ?_
 exact ⟨_,[],S5,rfl,hI.nil,hE05,rfl,_,rfl,hres⟩
end
end
end Go.Proofs.YtbocelianhcfmaaGreatDoor
