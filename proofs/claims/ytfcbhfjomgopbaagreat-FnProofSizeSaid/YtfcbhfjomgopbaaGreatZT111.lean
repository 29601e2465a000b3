/- spec.l13First. -/
import Derived.Test.YtfcbhfjomgopbaaGreatZT110
namespace Go.Proofs.YtfcbhfjomgopbaaGreat
open Go Go.RowKit
theorem TryL.left {p:List C} {chs:List Ch} {c:Ch} {l:List Int} {o:Option St6} (h:TryL p chs c l o) (l':List Int):TryL p chs ⟨c.goal,c.rest,l',c.binds⟩ l o:=by
 induction h with
 | nil=>exact .nil
 | hit h1 h2=>exact .hit (c:=⟨c.goal,c.rest,l',c.binds⟩) h1 h2
 | miss h1 h2 _ ih=>exact .miss h1 h2 ih
theorem FirstL.inv {p:List C} {chs:List Ch} {c:Ch} {x:Int} {l:List Int} {o:Option (St6 × Int × List Int)} (h:FirstL p chs c (x::l) o) :
  ∃ o1,TryL p chs c [x] o1/\((∃ s,o1=some s/\o=some (s,x,l)) ∨ (o1=none/\FirstL p chs c l o)):=by
 cases h with
 | hit h=>exact ⟨_,h,.inl ⟨_,rfl,rfl⟩⟩
 | miss h1 h2=>exact ⟨_,h1,.inr ⟨rfl,h2⟩⟩
def Nu (s:St6) (o:Option (St6 × Int × List Int)):Value->List Item->al->Prop:=fun q I' S'=>I'=[]/\∃ (cs:List Value) (lv:Value),q=.tuple #[.agg cs.toArray,.int .i64 (o.elim (-1) (·.2.1)),lv,.bool o.isSome]/\
 RdS6 S' cs (o.elim s (·.1))/\RdSl S' 1 gt lv (o.elim [] (·.2.2))
section
variable {P:Program} {w w0:World} {X:List Nat} {L:List Item} {S:al} {K:Value->World->Prop}
attribute [local irreducible] Run CondV ag aO
theorem H4 {α:Type} {R:List Value->α->Prop} {xs:List α} {u:Value} {T ty e:TypeId} {k l:Nat} (hT:cw P T=some (e,k)) (hx:RdSl S k R u xs) (hl:l<xs.length)
  (hk:∀ v',RdSl S k R v' [xs[l]]->K v' w):Run P (sOp (.slice T (.const u) (some (.const (.int .i64 l))) (some (.const (.int .i64 ((l+1:Nat):Int)))) none) ty) w K:=by
 obtain ⟨a,cap,rfl,hlc,hc,hx'⟩:=id hx
 have h1:=hx.to (show l+1<=xs.length by omega)
 have e:(if cap=0 then a else a.map (·.add (0 * k)))=a:=by
  split
  ·rfl
  ·cases a <;> simp [Addr.add]
 rw [e] at h1
 have hlt:(xs.take (l+1)).length=l+1:=by rw [List.length_take]; omega
 have h2:=h1.from (l:=l) (by omega)
 have e2:(xs.take (l+1)).drop l=[xs[l]]:=by
  rw [List.take_succ_eq_append_getElem hl]
  exact List.drop_left' (by rw [List.length_take]; omega)
 rw [e2] at h2
 exact LA hT (by omega) (by omega) (hk _ h2)
end
section
attribute [local irreducible] Run CondV ag aO
set_option maxHeartbeats 1000000 in
theorem xj {p:List C} (hp:∀ cl∈p,pU cl) {k:Nat} (hk:k<=1000) {c:Ch} (hc:ix c) (hr:okRk k c) {s:St6} {o:Option (St6 × Int × List Int)} (h:FirstL p s.chs c c.left o) (hn:s.chs.length<=1000)
  {S:al} {u:Value} {ss cs:List Value} (hP:RdSl S 5 (RdC S) u p) (hs:RdS6 S ss s) (hcc:RdCh S cs c):Tri Tryz.prog CS [u,.agg ss.toArray,.agg cs.toArray] [] S (Nu s o):=by
 intro w hI
 have hss3:=hs.length
 obtain ⟨gs,sb,sc,rfl,hsg,hsb,hsc⟩:=id hs
 obtain ⟨hd,rv,lv,bv,rfl,hgo,hre,hle,hbi⟩:=id hcc
 obtain ⟨la,lc,rfl,_⟩:=id hle
 have hgo0:=hgo
 obtain ⟨kv,rfl,_⟩:=RdT.iff.1 hgo
 have hll:=hle.le
 simp only [maxLen] at hll
 refine tP ?_
 unfold oG
 refine bS hI fun b4 w' hI=>?_
 refine bS hI fun b5 w' hI=>?_
 refine bi hI fx fun b6 w' hI=>?_
 obtain ⟨B4,hB4⟩:∃ B:Item,B=.blk b4 (.cells #[gs,sb,sc] bU):=⟨_,rfl⟩
 obtain ⟨B5,hB5⟩:∃ B:Item,B=.blk b5 (.cells #[.int .i64 c.goal.kind,.int .i64 c.goal.n,.string c.goal.name,kv,rv,.slice la c.left.length lc,bv] cn):=⟨_,rfl⟩
 obtain ⟨B6,hB6⟩:∃ B:Item,B=.blk b6 (.cells zSt bU):=⟨_,rfl⟩
 have e4:=congrArg some hB4
 have e5:=congrArg some hB5
 have e6:=congrArg some hB6
 have hI:Inv w [] [B4,B5,B6] S w':=by rw [hB4,hB5,hB6]; exact hI
 refine ⟨fun i w'=>∃ (j:Nat) (S1:al),j<=c.left.length/\i=.int .i64 j/\FirstL p s.chs c (c.left.drop j) o/\Ext w.heap.size [] S S1/\Inv w [] [B4,B5,B6] S1 w',
  fun i _=>c.left.length - (intOf i).toNat,⟨0,S,Nat.zero_le _,rfl,h,Ext.refl _ _ _,hI⟩,?_⟩
 intro t10 _ _ t9 t8 t7 t47 t46 t45 t44 t43 t42 t41 t40 t39 t38 t37 _ _ _ _ _ _ _ _ _ _ _ _ _ _ _ _ _ _ _ _ _ _ _ _ w'
 rintro ⟨j,S1,hj,rfl,hT,hE,hI⟩
 refine ao hI 1 e5 cO gU rfl ?_
 refine bp hle cX ?_
 refine cg ?_
 refine bz (fun hji=>?_) (fun hji=>?_)
 ·have hj':j<c.left.length:=by omega
  rw [List.drop_eq_getElem_cons hj'] at hT
  obtain ⟨o1,ht,hcase⟩:=hT.inv
  refine aL hI 1 cR e5 rfl ?_
  refine bi hI iy fun b11 w' hI=>?_
  have hI:Inv w [] [B4,B5,B6,.blk b11 (.cells zCh cn)] S1 w':=hI
  refine aG hI 3 rfl cR rfl rfl (by simpa using hcc.one) fun w' hI=>?_
  have hI:Inv w [] [B4,B5,B6,.blk b11 (.cells #[.int .i64 c.goal.kind,.int .i64 c.goal.n,.string c.goal.name,kv,rv,.slice la c.left.length lc,bv] cn)] S1 w':=hI
  refine ao hI 1 e5 cO gU rfl ?_
  refine bT (by omega) ?_
  rw [show ((j:Int)+1)=((j+1:Nat):Int) by omega]
  refine H4 cX hle hj' fun l1 hl1=>?_
  refine cM hI 3 rfl cO gU rfl (by obtain ⟨a,m,rfl,_⟩:=hl1; rfl) hl1.sl fun w' hI=>?_
  have hI:Inv w [] [B4,B5,B6,.blk b11 (.cells #[.int .i64 c.goal.kind,.int .i64 c.goal.n,.string c.goal.name,kv,rv,l1,bv] cn)] S1 w':=hI
  refine aL hI 0 cb e4 rfl ?_
  refine aL hI 3 cR rfl rfl ?_
  have hcc1:RdCh S1 [.int .i64 c.goal.kind,.int .i64 c.goal.n,.string c.goal.name,kv,rv,l1,bv] ⟨c.goal,c.rest,[c.left[j]],c.binds⟩:=
   ⟨_,_,_,_,rfl,hgo0.mono hE.1,hre.monoG hE.1,hl1.mono hE.1 fun _ _ h=>h,hbi.monoO hE.1⟩
  refine Run.call0E HQ Gi hI (Ec hp hk (c:=⟨c.goal,c.rest,[c.left[j]],c.binds⟩) ⟨hc.good,hc.goal,hc.rest⟩ ⟨hr.nb,hr.nr,hr.tab,hr.goal,hr.rest,hr.pos⟩ (ht.left _) hn (hP.monoC hE.1) (hs.mono hE.1) hcc1) fun v' I' S2 w'=>?_
  rintro ⟨rfl,ns,rfl,hns⟩ hE2 hI
  have hI:Inv w [] [B4,B5,B6,.blk b11 (.cells #[.int .i64 c.goal.kind,.int .i64 c.goal.n,.string c.goal.name,kv,rv,l1,bv] cn)] S2 w':=hI
  have hE12:=hE.trans hE2
  have hl3:=hns.length
  refine aB (v:=.agg ns.toArray) rfl ?_
  refine aB (v:=.bool o1.isSome) rfl ?_
  refine bi hI fx fun b12 w' hI=>?_
  have hI:Inv w [] [B4,B5,B6,.blk b11 (.cells #[.int .i64 c.goal.kind,.int .i64 c.goal.n,.string c.goal.name,kv,rv,l1,bv] cn),.blk b12 (.cells zSt bU)] S2 w':=hI
  refine aG hI 4 rfl cb (by simpa using hl3) rfl (by simpa using hns.one) fun w' hI=>?_
  obtain ⟨B12,hB12⟩:∃ B:Item,B=.blk b12 (.cells ns.toArray bU):=⟨_,rfl⟩
  have e12:=congrArg some hB12
  have hI:Inv w [] [B4,B5,B6,B12] S2 w':=by rw [hB12]; exact hI.pick [true,true,true,false,true]
  rcases hcase with ⟨s1,rfl,rfl⟩|⟨rfl,hT⟩
  ·refine aS (fun _=>?_) (fun hb=>by cases hb)
   obtain ⟨lb,lo,lc2,lcs,lE,lfz,hlv,hlS,hlR⟩:=hle.at_ hj'
   have hla:la=some ⟨lb,lo,none⟩:=by
    simp only [Value.slice.injEq] at hlv
    exact hlv.1
   have hix:∀ {ty:TypeId} {K:Value->World->Prop} {w':World},K (.pointer (some ⟨lb,lo+j * 1,none⟩)) w'->Run Tryz.prog (sOp (.indexAddr Gk (.const (.slice la c.left.length lc)) (.const (.int .i64 j))) ty) w' K:=fun hk=>by rw [hla]; exact be cX hj' hk
   have hlR:bm lcs (lo+j * 1) 1=[.int .i64 c.left[j]]:=hlR
   have hcell:lcs[lo+j * 1]?=some (.int .i64 c.left[j]):=bh hlR 0 _ rfl
   have hlS:=hE12.1 _ _ hlS
   rw [hB6] at hI
   have hI0:=hI
   refine ⟨fun D x9 x8 x7 lH sA nV rX lM ni lx tV jf iz ow w_=>(D 0=true->ow=.agg ns.toArray)/\(D 1=true->iz=.pointer (some ⟨b5,5,none⟩))/\(D 2=true->jf=.slice la c.left.length lc)/\(D 3=true->tV=.int .i64 (j:Int))/\(D 4=true->lx=.pointer (some ⟨lb,lo+j * 1,none⟩))/\(D 5=true->ni=.int .i64 c.left[j])/\(D 6=true->lM=.pointer (some ⟨b5,5,none⟩))/\(D 7=true->rX=.slice la c.left.length lc)/\(D 8=true->nV=.int .i64 (j:Int))/\(D 9=true->sA=.int .i64 ((j+1:Nat):Int))/\(D 10=true->RdSl S 1 gt lH (c.left.drop (j+1)))/\(D 11=true->True)/\(D 12=true->x7=.int .i64 c.left[j])/\(D 13=true->RdSl S 1 gt x8 (c.left.drop (j+1)))/\(D 14=true->x9=.bool true)/\Inv w [] [B4,B5,.blk b6 (.cells (cond (D 11) ns.toArray zSt) bU),B12] S2 w_,⟨ac,ac,ac,ac,ac,ac,ac,ac,ac,ac,ac,ac,ac,ac,ac,hI.draw⟩,⟨?_,?_,?_,?_,?_,?_,?_,?_,?_,?_,?_,?_,?_,?_,?_,trivial⟩,?_⟩
   all_goals (intro D bX; intros; rename_i x9 x8 x7 lH sA nV rX lM ni lx tV jf iz ow w_ hA_; obtain ⟨ax,ay,az,aA,aF,aH,aE,aM,aN,aR,aq,ar,aD,aP,aQ,hI⟩:=hA_)
   ·refine aL hI 3 cb e12 (by simpa using hl3) ?_
    exact ⟨fun _=>rfl,ay,az,aA,aF,aH,aE,aM,aN,aR,aq,ar,aD,aP,aQ,hI⟩
   ·refine aI cO ?_
    exact ⟨ax,fun _=>rfl,az,aA,aF,aH,aE,aM,aN,aR,aq,ar,aD,aP,aQ,hI⟩
   ·obtain rfl:=ay ‹_›
    refine aX hI 1 gU e5 rfl ?_
    exact ⟨ax,ay,fun _=>rfl,aA,aF,aH,aE,aM,aN,aR,aq,ar,aD,aP,aQ,hI⟩
   ·exact ⟨ax,ay,az,fun _=>rfl,aF,aH,aE,aM,aN,aR,aq,ar,aD,aP,aQ,hI⟩
   ·obtain rfl:=az ‹_›
    obtain rfl:=aA ‹_›
    refine hix ?_
    exact ⟨ax,ay,az,aA,fun _=>rfl,aH,aE,aM,aN,aR,aq,ar,aD,aP,aQ,hI⟩
   ·obtain rfl:=aF ‹_›
    refine dc aY ((hI.cellS hlS).trans hcell) ?_
    exact ⟨ax,ay,az,aA,aF,fun _=>rfl,aE,aM,aN,aR,aq,ar,aD,aP,aQ,hI⟩
   ·refine aI cO ?_
    exact ⟨ax,ay,az,aA,aF,aH,fun _=>rfl,aM,aN,aR,aq,ar,aD,aP,aQ,hI⟩
   ·obtain rfl:=aE ‹_›
    refine aX hI 1 gU e5 rfl ?_
    exact ⟨ax,ay,az,aA,aF,aH,aE,fun _=>rfl,aN,aR,aq,ar,aD,aP,aQ,hI⟩
   ·exact ⟨ax,ay,az,aA,aF,aH,aE,aM,fun _=>rfl,aR,aq,ar,aD,aP,aQ,hI⟩
   ·obtain rfl:=aN ‹_›
    refine bT (by omega) ?_; rw [show ((j:Int)+1)=((j+1:Nat):Int) by omega]
    exact ⟨ax,ay,az,aA,aF,aH,aE,aM,aN,fun _=>rfl,aq,ar,aD,aP,aQ,hI⟩
   ·obtain rfl:=aM ‹_›
    obtain rfl:=aR ‹_›
    refine hK cX hle (by omega) fun v' hv'=>?_
    exact ⟨ax,ay,az,aA,aF,aH,aE,aM,aN,aR,fun _=>by first|assumption|trivial,ar,aD,aP,aQ,hI⟩
   ·obtain rfl:=ax ‹_›
    rw [bX] at hI; refine aG hI 2 rfl cb (by simpa using hl3) rfl (by simpa using hns.one) fun w_ hI=>?_
    exact ⟨ax,ay,az,aA,aF,aH,aE,aM,aN,aR,aq,fun _=>trivial,aD,aP,aQ,hI⟩
   ·obtain rfl:=aH ‹_›
    exact ⟨ax,ay,az,aA,aF,aH,aE,aM,aN,aR,aq,ar,fun _=>rfl,aP,aQ,hI⟩
   ·have wv:=aq ‹_›
    have wv:=aq ‹D 10=true›
    exact ⟨ax,ay,az,aA,aF,aH,aE,aM,aN,aR,aq,ar,aD,fun _=>by first|assumption|trivial,aQ,hI⟩
   ·exact ⟨ax,ay,az,aA,aF,aH,aE,aM,aN,aR,aq,ar,aD,aP,fun _=>rfl,hI⟩
   obtain rfl:=aQ ‹_›
   have NS:=aP ‹_›
   obtain rfl:=aD ‹_›
   have wv:=aq ‹_›
   obtain rfl:=aR ‹_›
   obtain rfl:=aN ‹_›
   obtain rfl:=aM ‹_›
   obtain rfl:=aE ‹_›
   obtain rfl:=aH ‹_›
   obtain rfl:=aF ‹_›
   obtain rfl:=aA ‹_›
   obtain rfl:=az ‹_›
   obtain rfl:=ay ‹_›
   obtain rfl:=ax ‹_›
   have sR:D 11=true:=by assumption
   clear ax ay az aA aF aH aE aM aN aR aq ar aD aP aQ
   rw [sR] at hI
   refine bE hI 2 cb rfl (by simpa using hl3) ?_
   exact ⟨_,[],S2,rfl,hI.nil,hE12,rfl,ns,_,rfl,hns,NS.mono hE12.1 fun _ _ h=>h⟩
  ·refine aS (fun hb=>by cases hb) (fun _=>?_)
   refine bT (by omega) ?_
   exact ⟨⟨j+1,S2,hj',rfl,hT,hE12,hI.pick [true,true,true]⟩,by simp [intOf]; omega⟩
 ·have:j=c.left.length:=by omega
  subst this
  rw [List.drop_length] at hT
  cases hT
  refine aL hI 0 cb e4 rfl ?_
  refine aG (cs:=#[gs,sb,sc]) hI 2 e6 cb rfl rfl (by simpa using hs.one) fun w' hI=>?_
  refine bE hI 2 cb rfl rfl ?_
  exact ⟨_,[],S1,rfl,hI.nil,hE,rfl,_,_,rfl,hs.mono hE.1,RdSl.nil0 ..⟩
end
end Go.Proofs.YtfcbhfjomgopbaaGreat

/- groups of operations in free order: a row that grows by a row and one element, within a new variable. -/
namespace Go.Proofs.YtfcbhfjomgopbaaGreat
open Go Go.RowKit
def anP {α:Type} (w0:World) (X:List Nat) (A:List Item) (T:TypeId) (k:Nat) (R:al->List Value->α->Prop) (xs:List α) (y:α) (S0:al) (Tn:TypeId) (z:Array Value) (Q:al->Value->Prop)
  (d5 db da ds:Bool) (v0 v1 v5 v2 vb x:Value) (w:World) (n:Nat):Prop:=
 ∃ S1 b q,Ext w0.heap.size X S0 S1/\(d5=true->RdSl S1 k (R S1) v5 [y])/\(db=true->Q S1 vb)/\(da=true->x=.pointer (some ⟨b,0,none⟩))/\(ds=true->da=true)/\(ds=false->q=z)/\(ds=true->Q S1 (.agg q))/\
  apC w0 X (A++cond da [.blk b (.cells q Tn)] []) T k R xs y S1 v0 v1 v2 w n
section
variable {α:Type} {P:Program} {w0 w:World} {X:List Nat} {A:List Item} {e:TypeId} {k:Nat} {R:al->List Value->α->Prop} {xs:List α} {y:α} {S0:al} {Tn:TypeId} {z:Array Value} {Q:al->Value->Prop}
 {d5 db da ds:Bool} {v0 v1 v5 v2 vb x:Value} {n:Nat} {K:Value->World->Prop}
attribute [local irreducible] Run
theorem anP.mk {S:al} (h:Inv w0 X A S w) (v0 v1 v5 v2 vb x:Value):anP w0 X A e k R xs y S Tn z Q false false false false v0 v1 v5 v2 vb x w 0:=
 ⟨S,0,z,Ext.refl _ _ _,fun h=>(by cases h),fun h=>(by cases h),fun h=>(by cases h),fun h=>(by cases h),fun _=>rfl,fun h=>(by cases h),by rw [cond_false,List.append_nil]; exact h⟩
theorem anP.inv (h:anP w0 X A e k R xs y S0 Tn z Q d5 db da ds v0 v1 v5 v2 vb x w n):∃ S1 B,Ext w0.heap.size X S0 S1/\Inv w0 X (A++B) S1 w:=by
 obtain ⟨S1,b,q,h1,_,_,_,_,_,_,h5⟩:=h
 obtain ⟨B,hI⟩:=h5.inv
 exact ⟨S1,_,h1,by rw [List.append_assoc] at hI; exact hI⟩
theorem anP.fin (h:anP w0 X A e k R xs y S0 Tn z Q d5 db true true v0 v1 v5 v2 vb x w 3):∃ S1 b q,Ext w0.heap.size X S0 S1/\x=.pointer (some ⟨b,0,none⟩)/\Q S1 (.agg q)/\Inv w0 X (A++[.blk b (.cells q Tn)]) S1 w:=by
 obtain ⟨S1,b,q,h1,_,_,h4,_,_,h7,h8⟩:=h
 exact ⟨S1,b,q,h1,h4 rfl,h7 rfl,h8.2⟩
theorem anP.res (h:anP w0 X A e k R xs y S0 Tn z Q d5 db da ds v0 v1 v5 v2 vb x w 3):∃ a m,v2=.slice a (xs++[y]).length m:=by
 obtain ⟨S1,b,q,_,_,_,_,_,_,_,⟨a,m,rfl,_⟩,_⟩:=h
 exact ⟨a,m,rfl⟩
theorem anP.bld (h:anP w0 X A e k R xs y S0 Tn z Q d5 db da ds v0 v1 v5 v2 vb x w 3) {vb':Value} (hQ:∀ S1,Ext w0.heap.size X S0 S1->RdSl S1 k (R S1) v2 (xs++[y])->Q S1 vb'):anP w0 X A e k R xs y S0 Tn z Q d5 true da ds v0 v1 v5 v2 vb' x w 3:=by
 obtain ⟨S1,b,q,h1,h2,_,h4,h5,h6,h7,h8,h9⟩:=h
 exact ⟨S1,b,q,h1,h2,fun _=>hQ S1 h1 h8,h4,h5,h6,h7,h8,h9⟩
theorem anP.val (h:anP w0 X A e k R xs y S0 Tn z Q d5 db da ds v0 v1 v5 v2 vb x w n) (hd:db=true):∃ S1,Q S1 vb:=by
 obtain ⟨S1,b,q,_,_,h3,_⟩:=h
 exact ⟨S1,h3 hd⟩
theorem an0 {T:TypeId} {by_:Nat} {zv:Value} (h:anP w0 X A e k R xs y S0 Tn z Q d5 db da ds v0 v1 v5 v2 vb x w 0) (hT:fB P T=some (e,k,by_,zv))
  (hk:∀ v w',anP w0 X A e k R xs y S0 Tn z Q d5 db da ds v v1 v5 v2 vb x w' 1->K v w'):Run P (av T 0 []) w K:=by
 obtain ⟨S1,b,q,h1,h2,h3,h4,h5,h6,h7,h8⟩:=h
 exact Oi h8 hT fun v w' h=>hk v w' ⟨S1,b,q,h1,h2,h3,h4,h5,h6,h7,h⟩
theorem an3 {T ty:TypeId} {by_:Nat} {zv u:Value} {cs:List Bool} (hR:∀ S S' cs x,Sle S S'->R S cs x->R S' cs x) (h:anP w0 X A e k R xs y S0 Tn z Q d5 db da ds v0 v1 v5 v2 vb x w 1) (hT:fB P T=some (e,k,by_,zv)) (hk0:0<k) (hu:RdSl S0 k (R S0) u xs)
  (hlen:∀ S cs y,R S cs y->cs.length=k) (ho:∀ S cs y,R S cs y->∀ c∈cs,c.oneCell'=true) (hl:xs.length<=4294967296) (hby:by_<=32768)
  (hk:∀ v w',anP w0 X A e k R xs y S0 Tn z Q d5 db da ds v0 v v5 v2 vb x w' 2->K v w'):Run P (bx .append #[T,T] ty cs [v0,u]) w K:=by
 obtain ⟨S1,b,q,h1,h2,h3,h4,h5,h6,h7,h8⟩:=h
 exact Oc h8 hT hk0 (hu.mono h1.1 fun _ _ h=>hR _ _ _ _ h1.1 h) (hlen S1) (ho S1) hl hby fun v w' h=>hk v w' ⟨S1,b,q,h1,h2,h3,h4,h5,h6,h7,h⟩
theorem an5 {T:TypeId} {by_:Nat} {zv:Value} {cs:List Value} (hR:∀ S S' cs x,Sle S S'->R S cs x->R S' cs x) (hQ:∀ S S' v,Sle S S'->Q S v->Q S' v) (h:anP w0 X A e k R xs y S0 Tn z Q d5 db da ds v0 v1 v5 v2 vb x w n) (hT:fB P T=some (e,k,by_,zv)) (hk0:0<k) (hk24:k<=65536)
  {v:Value} (hvc:v.cells=cs.toArray) (hy:R S0 cs y) (hlen:∀ S cs y,R S cs y->cs.length=k)
  (hk:∀ v w',anP w0 X A e k R xs y S0 Tn z Q true db da ds v0 v1 v v2 vb x w' n->K v w'):Run P (av T 1 [(0,v)]) w K:=by
 obtain ⟨S1,bb,q,h1,h2,h3,h4,h5,h6,h7,h8⟩:=h
 obtain ⟨B,hI,hback⟩:=h8.ex hR
 have hl:=hlen _ _ _ hy
 refine dh hI hT (by rw [hvc]; simpa using hl) hk24 hk0 fun b w' hI=>?_
 obtain ⟨S2,hI,hE,hb⟩:=Inv.pub1 hI
 rw [hvc] at hb
 exact hk _ w' ⟨S2,bb,q,h1.trans hE,fun _=>RdSl.single hb hl (hR _ _ _ _ (h1.trans hE).1 hy),fun e=>hQ _ _ _ hE.1 (h3 e),h4,h5,h6,fun e=>hQ _ _ _ hE.1 (h7 e),hback _ S2 w' hE.1 hI⟩
theorem an6 {T ty:TypeId} {by_:Nat} {zv:Value} {cs:List Bool} (hR:∀ S S' cs x,Sle S S'->R S cs x->R S' cs x) (hQ:∀ S S' v,Sle S S'->Q S v->Q S' v) (h:anP w0 X A e k R xs y S0 Tn z Q d5 db da ds v0 v1 v5 v2 vb x w 2) (hd:d5=true) (hT:fB P T=some (e,k,by_,zv)) (hk0:0<k)
  (hlen:∀ S cs y,R S cs y->cs.length=k) (ho:∀ S cs y,R S cs y->∀ c∈cs,c.oneCell'=true) (hl:xs.length+1<=4294967296) (hby:by_<=32768)
  (hk:∀ v w',anP w0 X A e k R xs y S0 Tn z Q d5 db da ds v0 v1 v5 v vb x w' 3->K v w'):Run P (bx .append #[T,T] ty cs [v1,v5]) w K:=by
 obtain ⟨S1,b,q,h1,h2,h3,h4,h5,h6,h7,h8⟩:=h
 exact N5 hR h8 hT hk0 (h2 hd) (hlen S1) (ho S1) hl hby fun v S' w' hE h=>hk v w' ⟨S',b,q,h1.trans hE,fun e=>(h2 e).mono hE.1 fun _ _ h=>hR _ _ _ _ hE.1 h,fun e=>hQ _ _ _ hE.1 (h3 e),h4,h5,h6,fun e=>hQ _ _ _ hE.1 (h7 e),h⟩
theorem anP.alloc {ty:TypeId} {zv:Value} (hR:∀ S S' cs x,Sle S S'->R S cs x->R S' cs x) (h:anP w0 X A e k R xs y S0 Tn z Q d5 db da ds v0 v1 v5 v2 vb x w n) (hd:da=false) (hz:gK P Tn=some zv) (hzc:zv.cells=z)
  (hk:∀ v w',anP w0 X A e k R xs y S0 Tn z Q d5 db true ds v0 v1 v5 v2 vb v w' n->K v w'):Run P (sOp (.alloc Tn) ty) w K:=by
 obtain ⟨S1,b,q,h1,h2,h3,h4,h5,h6,h7,h8⟩:=h
 have hds:ds=false:=Bool.eq_false_iff.2 fun e=>by rw [h5 e] at hd; cases hd
 rw [hd,cond_false,List.append_nil] at h8
 obtain ⟨B,hI,hback⟩:=h8.ex hR
 refine bi hI hz fun b w' hI=>hk _ w' ⟨S1,b,z,h1,h2,h3,fun _=>rfl,fun _=>rfl,fun _=>rfl,fun e=>(by rw [hds] at e; cases e),?_⟩
 rw [cond_true,<- hzc]
 refine hback _ S1 w' (Sle.refl _) (hI.perm ?_)
 rw [List.append_assoc,List.append_assoc]
 exact List.Perm.append_left _ List.perm_append_comm
theorem anP.store {ty:TypeId} {m:Nat} {cs:Array Value} (hR:∀ S S' cs x,Sle S S'->R S cs x->R S' cs x) (h:anP w0 X A e k R xs y S0 Tn z Q d5 db da ds v0 v1 v5 v2 vb x w n) (hd:da=true) (hs:ds=false) (hT:iH P Tn=some m) (hn:cs.size=m) (hz:z.size=m)
  (h1c:∀ u∈cs.toList,u.oneCell'=true) (hdb:db=true) (hvb:vb=.agg cs)
  (hk:∀ w',anP w0 X A e k R xs y S0 Tn z Q d5 db da true v0 v1 v5 v2 vb x w' n->K undef w'):Run P (sOp (.store Tn (.const x) (.const (.agg cs))) ty) w K:=by
 obtain ⟨S1,b,q,h1,h2,h3,h4,h5,h6,h7,h8⟩:=h
 rw [hd,cond_true,h6 hs] at h8
 rw [h4 hd]
 obtain ⟨B,hI,hback⟩:=h8.ex hR
 have hi:(A++[Item.blk b (.cells z Tn)]++B)[A.length]?=some (.blk b (.cells z Tn)):=by simp
 refine aG (E:=Tn) hI A.length hi hT hn hz h1c fun w' hI=>?_
 have e2:(A++[Item.blk b (.cells z Tn)]++B).set A.length (.blk b (.cells cs Tn))=A++[.blk b (.cells cs Tn)]++B:=by simp
 rw [e2] at hI
 refine hk w' ⟨S1,b,cs,h1,h2,h3,h4,fun _=>hd,fun e=>(by cases e),fun _=>hvb ▸ h3 hdb,?_⟩
 rw [hd,cond_true]
 exact hback _ S1 w' (Sle.refl _) hI
end
end Go.Proofs.YtfcbhfjomgopbaaGreat

/- spec.l13Take. -/
namespace Go.Proofs.YtfcbhfjomgopbaaGreat
open Go Go.RowKit
abbrev zSe:Array Value:=#[.slice none 0 0,.slice none 0 0,.slice none 0 0,.slice none 0 0,.slice none 0 0]
def Nx (s:Se) (o:Option Se):Value->List Item->al->Prop:=fun q I' S'=>I'=[]/\∃ cs:List Value,q=.tuple #[.agg cs.toArray,.bool o.isSome]/\RdSe S' cs (o.getD s)
theorem N6 {a b c d e:Value}:∀ (j:Nat) (v:Value),([a,b,c]:List Value)[j]?=some v->(#[a,b,c,d,e]:Array Value)[0+j]?=some v
 | 0,v,h=>by simpa using h
 | 1,v,h=>by simpa using h
 | 2,v,h=>by simpa using h
 | n+3,v,h=>by simp at h
theorem KN {a b c d e:Value} (h1:a.oneCell'=true) (h2:b.oneCell'=true) (h3:c.oneCell'=true) (h4:d.oneCell'=true) (h5:e.oneCell'=true):∀ x∈(#[a,b,c,d,e]:Array Value).toList,x.oneCell'=true:=by
 intro x hx
 simp only [List.mem_cons,List.not_mem_nil,or_false] at hx
 rcases hx with rfl|rfl|rfl|rfl|rfl <;> assumption
section
attribute [local irreducible] Run CondV ag aO
set_option maxHeartbeats 4000000 in
theorem oQ {p:List C} (hp:∀ cl∈p,pU cl) {k:Nat} (hk:k<=1000) {c:Ch} (hc:ix c) (hr:okRk k c) {s:Se} {o:Option Se} (h:TakeR p s c o) (hn:s.st.chs.length<=1000) (hn2:s.steps.length<=1000) (hn3:s.saved.length<=1000)
  {S:al} {u:Value} {ss cs:List Value} (hP:RdSl S 5 (RdC S) u p) (hs:RdSe S ss s) (hcc:RdCh S cs c):Tri Tryz.prog E0 [u,.agg ss.toArray,.agg cs.toArray] [] S (Nx s o):=by
 intro w hI
 obtain ⟨gs,sb,sc,st,sv,rfl,hsg,hsb,hsc,hst,hsv⟩:=id hs
 obtain ⟨sca,scc,rfl,_⟩:=id hsc
 obtain ⟨sta,stc,rfl,_⟩:=id hst
 obtain ⟨sva,svc,rfl,_⟩:=id hsv
 obtain ⟨pa,pcap,rfl,_⟩:=id hP
 obtain ⟨hd,rv,lv,bv,rfl,hgo,hre,hle,hbi⟩:=id hcc
 have hgo0:=hgo
 obtain ⟨kv,rfl,_⟩:=RdT.iff.1 hgo
 refine vV ?_
 unfold sw
 refine bS hI fun b4 w' hI=>?_
 refine bS hI fun b5 w' hI=>?_
 refine bi hI cV fun b6 w' hI=>?_
 obtain ⟨B4,hB4⟩:∃ B:Item,B=.blk b4 (.cells #[gs,sb,.slice sca s.st.chs.length scc,.slice sta s.steps.length stc,.slice sva s.saved.length svc] aW):=⟨_,rfl⟩
 obtain ⟨B5,hB5⟩:∃ B:Item,B=.blk b5 (.cells #[.int .i64 c.goal.kind,.int .i64 c.goal.n,.string c.goal.name,kv,rv,lv,bv] cn):=⟨_,rfl⟩
 obtain ⟨B6,hB6⟩:∃ B:Item,B=.blk b6 (.cells zSe aW):=⟨_,rfl⟩
 have e4:=congrArg some hB4
 have e5:=congrArg some hB5
 have e6:=congrArg some hB6
 have hI:Inv w [] [B4,B5,B6] S w':=by rw [hB4,hB5,hB6]; exact hI
 have hs6:RdS6 S [gs,sb,.slice sca s.st.chs.length scc] s.st:=⟨_,_,_,rfl,hsg,hsb,hsc⟩
 obtain ⟨o1,hF,ho⟩:∃ o1,FirstL p s.st.chs c c.left o1/\((o1=none/\o=none) ∨ ∃ u i l,o1=some (u,i,l)/\o=some (gA p s c u i l)):=by
  cases h with
  | no h=>exact ⟨_,h,.inl ⟨rfl,rfl⟩⟩
  | yes h=>exact ⟨_,h,.inr ⟨_,_,_,rfl,rfl⟩⟩
 refine aI bR ?_
 refine cN hI 0 [gs,sb,.slice sca s.st.chs.length scc] cb e4 rfl N6 ?_
 refine aL hI 1 cR e5 rfl ?_
 refine Run.call0E Ax Ai hI (xj hp hk hc hr hF hn hP hs6 hcc) fun v' I' S1 w'=>?_
 rintro ⟨rfl,ns,lv1,rfl,hns,hl1⟩ hE hI
 have hI:Inv w [] [B4,B5,B6] S1 w':=hI
 have hl3:=hns.length
 refine aB (v:=.agg ns.toArray) rfl ?_
 refine aB (v:=.int .i64 (o1.elim (-1) (·.2.1))) rfl ?_
 refine aB (v:=lv1) rfl ?_
 refine aB (v:=.bool o1.isSome) rfl ?_
 refine bi hI fx fun b8 w' hI=>?_
 have hI:Inv w [] [B4,B5,B6,.blk b8 (.cells zSt bU)] S1 w':=hI
 refine aG hI 3 rfl cb (by simpa using hl3) rfl (by simpa using hns.one) fun w' hI=>?_
 have hI:Inv w [] [B4,B5,B6,.blk b8 (.cells ns.toArray bU)] S1 w':=hI
 refine cK ?_
 rcases ho with ⟨rfl,rfl⟩|⟨u1,i,l,rfl,rfl⟩
 ·refine aS (fun _=>?_) (fun hb=>by cases hb)
  refine aL hI 0 bj e4 rfl ?_
  refine aG (cs:=#[gs,sb,.slice sca s.st.chs.length scc,.slice sta s.steps.length stc,.slice sva s.saved.length svc]) hI 2 e6 bj rfl rfl (by simpa using hs.one) fun w' hI=>?_
  refine bE hI 2 bj rfl rfl ?_
  exact ⟨_,[],S1,rfl,hI.nil,hE,rfl,_,rfl,hs.mono hE.1⟩
 refine aS (fun hb=>by cases hb) (fun _=>?_)
 simp only [Option.elim_some] at hns hl1 ⊢
 obtain ⟨n,cl,stt,rfl,hcl,hu1,_⟩:=hF.of _ _ _ rfl
 obtain ⟨gu,bu,cu,rfl,hgu,hbu,hcu⟩:=hns
 have hnp:n<p.length:=(List.getElem?_eq_some_iff.1 hcl).1
 have hpc:p[n]=cl:=(List.getElem?_eq_some_iff.1 hcl).2
 have hm:=hp cl (List.mem_of_getElem? hcl)
 have hln:=hm.ln
 obtain ⟨pb,po,pc2,pc,pE,pfz,hpv,hpS,hpR⟩:=hP.at_ hnp
 have hpa:pa=some ⟨pb,po,none⟩:=by
  simp only [Value.slice.injEq] at hpv
  exact hpv.1
 rw [hpc] at hpR
 obtain ⟨kv1,kb1,hce,hh,hb⟩:=hpR.cells
 have hcell:pc[po+n * 5+4]?=some kb1:=bh hce 4 _ rfl
 have hpS1:=hE.1 _ _ hpS
 obtain ⟨kba,kbc,rfl,_⟩:=id hb
 have hix:∀ {ty:TypeId} {K:Value->World->Prop} {w':World},K (.pointer (some ⟨pb,po+n * 5,none⟩)) w'->Run Tryz.prog (sOp (.indexAddr GR (.const (.slice pa p.length pcap)) (.const (.int .i64 (n:Int)))) ty) w' K:=fun hk=>by rw [hpa]; exact be fl hnp hk
 obtain ⟨B8,hB8⟩:∃ B:Item,B=.blk b8 (.cells #[gu,bu,cu] bU):=⟨_,rfl⟩
 have e8:=congrArg some hB8
 have hI:Inv w [] [B4,B5,B6,B8] S1 w':=by rw [hB8]; exact hI
 obtain ⟨sp,hsp⟩:∃ sp:Sp,sp=⟨c.goal,(n:Int),(cl.body.length:Int)⟩:=⟨_,rfl⟩
 have hspr:RdSp S1 [.int .i64 c.goal.kind,.int .i64 c.goal.n,.string c.goal.name,kv,.int .i64 (n:Int),.int .i64 (cl.body.length:Int)] sp:=by
  rw [hsp]
  exact ⟨_,rfl,hgo0.mono hE.1⟩
 have hst1:=hst.monoSp hE.1
 refine ⟨fun D MQ sA nV rX lM ni lx tV jf iz ow jI kP ul lI rN jP jc jK gC mz w_=>(D 0=true->mz=.agg #[gu,bu,cu])/\(D 1=true->True)/\(D 2=true->jK=.pointer (some ⟨b4,3,none⟩))/\(D 3=true->jc=.slice sta s.steps.length stc)/\(D 4=true->True)/\(D 5=true->rN=.pointer (some ⟨b5,0,none⟩))/\(D 6=true->lI=.agg #[.int .i64 c.goal.kind,.int .i64 c.goal.n,.string c.goal.name,kv])/\(D 7=true->ul=.int .i64 (n:Int))/\(D 8=true->kP=.slice pa p.length pcap)/\(D 9=true->jI=.int .i64 (n:Int))/\(D 10=true->ow=.pointer (some ⟨pb,po+n * 5,none⟩))/\(D 11=true->iz=.pointer (some ⟨pb,po+n * 5+4,none⟩))/\(D 12=true->jf=.slice kba cl.body.length kbc)/\(D 13=true->tV=.int .i64 (cl.body.length:Int))/\(D 14=true->lx=.agg #[.int .i64 c.goal.kind,.int .i64 c.goal.n,.string c.goal.name,kv,.int .i64 (n:Int),.int .i64 (cl.body.length:Int)])/\(D 15=true->True)/\(D 16=true->True)/\(D 17=true->rX=.pointer (some ⟨b4,4,none⟩))/\(D 18=true->nV=.slice sva s.saved.length svc)/\(D 19=true->True)/\(D 20=true->True)/\(D 21=true->True)/\∃ n_:Nat,n_<=3/\D 1=decide (1<=n_)/\D 4=decide (2<=n_)/\D 16=decide (3<=n_)/\(anP w [] [B4,B5,B6,B8] fU 6 RdSp s.steps sp S1 aW zSe (fun S v=>∃ u,v=.agg #[gu,bu,cu,u,.slice sva s.saved.length svc]/\RdSl S 6 (RdSp S) u (s.steps++[sp])) (D 15) (D 19) (D 20) (D 21) gC jP ni lM sA MQ w_ n_),⟨ac,ac,ac,ac,ac,ac,ac,ac,ac,ac,ac,ac,ac,ac,ac,ac,ac,ac,ac,ac,ac,ac,⟨0,Nat.zero_le _,rfl,rfl,rfl,anP.mk hI.draw _ _ _ _ _ _⟩⟩,⟨?_,?_,?_,?_,?_,?_,?_,?_,?_,?_,?_,?_,?_,?_,?_,?_,?_,?_,?_,?_,?_,?_,trivial⟩,?_⟩
 all_goals (intro D bX; intros; rename_i MQ sA nV rX lM ni lx tV jf iz ow jI kP ul lI rN jP jc jK gC mz w_ hA_; obtain ⟨ax,ay,az,aA,aF,aH,aE,aM,aN,aR,aq,ar,aD,aP,aQ,aT,aU,aV,aZ,bg,bk,bt,⟨n_,ln_,e1_,e2_,e3_,hS⟩⟩:=hA_)
 ·obtain ⟨S2,R,hE2,hI⟩:=hS.inv; refine aL hI 3 cb e8 rfl ?_
  exact ⟨fun _=>rfl,ay,az,aA,aF,aH,aE,aM,aN,aR,aq,ar,aD,aP,aQ,aT,aU,aV,aZ,bg,bk,bt,⟨n_,ln_,e1_,e2_,e3_,hS⟩⟩
 ·obtain rfl:n_=0:=vo e1_ bX
  refine an0 hS ek fun v w_ hS=>?_
  exact ⟨ax,fun _=>by first|assumption|trivial,az,aA,aF,aH,aE,aM,aN,aR,aq,ar,aD,aP,aQ,aT,aU,aV,aZ,bg,bk,bt,⟨1,by decide,rfl,(by first|exact e2_|rfl),(by first|exact e3_|rfl),hS⟩⟩
 ·refine aI eV ?_
  exact ⟨ax,ay,fun _=>rfl,aA,aF,aH,aE,aM,aN,aR,aq,ar,aD,aP,aQ,aT,aU,aV,aZ,bg,bk,bt,⟨n_,ln_,e1_,e2_,e3_,hS⟩⟩
 ·obtain rfl:=az ‹_›
  obtain ⟨S2,R,hE2,hI⟩:=hS.inv; refine aX hI 0 fG e4 rfl ?_
  exact ⟨ax,ay,az,fun _=>rfl,aF,aH,aE,aM,aN,aR,aq,ar,aD,aP,aQ,aT,aU,aV,aZ,bg,bk,bt,⟨n_,ln_,e1_,e2_,e3_,hS⟩⟩
 ·have O5:=ay ‹_›
  obtain rfl:=aA ‹_›
  obtain rfl:n_=1:=gf e1_ ‹D 1=true› e2_ bX
  refine an3 spM hS ek (by omega) hst1 spL spO (by omega) (by omega) fun v w_ hS=>?_
  exact ⟨ax,ay,az,aA,fun _=>by first|assumption|trivial,aH,aE,aM,aN,aR,aq,ar,aD,aP,aQ,aT,aU,aV,aZ,bg,bk,bt,⟨2,by decide,(by first|exact e1_|rfl),rfl,(by first|exact e3_|rfl),hS⟩⟩
 ·refine aI i4 ?_
  exact ⟨ax,ay,az,aA,aF,fun _=>rfl,aE,aM,aN,aR,aq,ar,aD,aP,aQ,aT,aU,aV,aZ,bg,bk,bt,⟨n_,ln_,e1_,e2_,e3_,hS⟩⟩
 ·obtain rfl:=aH ‹_›
  obtain ⟨S2,R,hE2,hI⟩:=hS.inv; refine cN hI 1 [.int .i64 c.goal.kind,.int .i64 c.goal.n,.string c.goal.name,kv] ai e5 rfl KH ?_
  exact ⟨ax,ay,az,aA,aF,aH,fun _=>rfl,aM,aN,aR,aq,ar,aD,aP,aQ,aT,aU,aV,aZ,bg,bk,bt,⟨n_,ln_,e1_,e2_,e3_,hS⟩⟩
 ·exact ⟨ax,ay,az,aA,aF,aH,aE,fun _=>rfl,aN,aR,aq,ar,aD,aP,aQ,aT,aU,aV,aZ,bg,bk,bt,⟨n_,ln_,e1_,e2_,e3_,hS⟩⟩
 ·exact ⟨ax,ay,az,aA,aF,aH,aE,aM,fun _=>rfl,aR,aq,ar,aD,aP,aQ,aT,aU,aV,aZ,bg,bk,bt,⟨n_,ln_,e1_,e2_,e3_,hS⟩⟩
 ·exact ⟨ax,ay,az,aA,aF,aH,aE,aM,aN,fun _=>rfl,aq,ar,aD,aP,aQ,aT,aU,aV,aZ,bg,bk,bt,⟨n_,ln_,e1_,e2_,e3_,hS⟩⟩
 ·obtain rfl:=aN ‹_›
  obtain rfl:=aR ‹_›
  refine hix ?_
  exact ⟨ax,ay,az,aA,aF,aH,aE,aM,aN,aR,fun _=>rfl,ar,aD,aP,aQ,aT,aU,aV,aZ,bg,bk,bt,⟨n_,ln_,e1_,e2_,e3_,hS⟩⟩
 ·obtain rfl:=aq ‹_›
  refine aI cD ?_
  exact ⟨ax,ay,az,aA,aF,aH,aE,aM,aN,aR,aq,fun _=>rfl,aD,aP,aQ,aT,aU,aV,aZ,bg,bk,bt,⟨n_,ln_,e1_,e2_,e3_,hS⟩⟩
 ·obtain rfl:=ar ‹_›
  obtain ⟨S2,R,hE2,hI⟩:=hS.inv; refine dc aJ ((hI.cellS (hE2.1 _ _ hpS1)).trans hcell) ?_
  exact ⟨ax,ay,az,aA,aF,aH,aE,aM,aN,aR,aq,ar,fun _=>rfl,aP,aQ,aT,aU,aV,aZ,bg,bk,bt,⟨n_,ln_,e1_,e2_,e3_,hS⟩⟩
 ·obtain rfl:=aD ‹_›
  refine eT aC ?_
  exact ⟨ax,ay,az,aA,aF,aH,aE,aM,aN,aR,aq,ar,aD,fun _=>rfl,aQ,aT,aU,aV,aZ,bg,bk,bt,⟨n_,ln_,e1_,e2_,e3_,hS⟩⟩
 ·obtain rfl:=aE ‹_›
  obtain rfl:=aM ‹_›
  obtain rfl:=aP ‹_›
  refine Jc ?_
  exact ⟨ax,ay,az,aA,aF,aH,aE,aM,aN,aR,aq,ar,aD,aP,fun _=>rfl,aT,aU,aV,aZ,bg,bk,bt,⟨n_,ln_,e1_,e2_,e3_,hS⟩⟩
 ·obtain rfl:=aQ ‹_›
  refine an5 spM (fun _ _ _ hs hq=>hq.imp fun _ h=>⟨h.1,h.2.monoSp hs⟩) hS ek (by omega) (by omega) rfl hspr spL fun v w_ hS=>?_
  exact ⟨ax,ay,az,aA,aF,aH,aE,aM,aN,aR,aq,ar,aD,aP,aQ,fun _=>by first|assumption|trivial,aU,aV,aZ,bg,bk,bt,⟨n_,ln_,e1_,e2_,e3_,hS⟩⟩
 ·have NP:=aF ‹_›
  have JQ:=aT ‹_›
  obtain rfl:n_=2:=gf e2_ ‹D 4=true› e3_ bX
  refine an6 spM (fun _ _ _ hs hq=>hq.imp fun _ h=>⟨h.1,h.2.monoSp hs⟩) hS ‹D 15=true› ek (by omega) spL spO (by omega) (by omega) fun v w_ hS=>?_
  exact ⟨ax,ay,az,aA,aF,aH,aE,aM,aN,aR,aq,ar,aD,aP,aQ,aT,fun _=>by first|assumption|trivial,aV,aZ,bg,bk,bt,⟨3,by decide,(by first|exact e1_|rfl),(by first|exact e2_|rfl),rfl,hS⟩⟩
 ·refine aI eR ?_
  exact ⟨ax,ay,az,aA,aF,aH,aE,aM,aN,aR,aq,ar,aD,aP,aQ,aT,aU,fun _=>rfl,aZ,bg,bk,bt,⟨n_,ln_,e1_,e2_,e3_,hS⟩⟩
 ·obtain rfl:=aV ‹_›
  obtain ⟨S2,R,hE2,hI⟩:=hS.inv; refine aX hI 0 fL e4 rfl ?_
  exact ⟨ax,ay,az,aA,aF,aH,aE,aM,aN,aR,aq,ar,aD,aP,aQ,aT,aU,aV,fun _=>rfl,bg,bk,bt,⟨n_,ln_,e1_,e2_,e3_,hS⟩⟩
 ·obtain rfl:=ax ‹_›
  have Lz:=aU ‹_›
  obtain rfl:=aZ ‹_›
  have hn3:=kq ln_ e3_ ‹D 16=true›
  rw [hn3] at hS
  obtain ⟨ra,rm,hx43⟩:=hS.res
  rw [hx43]
  refine Br ?_
  have hS:=hS.bld (vb':=.agg #[gu,bu,cu,lM,.slice sva s.saved.length svc]) fun S2 _ h=>⟨_,rfl,h⟩
  rw [hx43] at hS
  rw [<- hn3] at hS
  exact ⟨ax,ay,az,aA,aF,aH,aE,aM,aN,aR,aq,ar,aD,aP,aQ,aT,aU,aV,aZ,fun _=>by first|assumption|trivial,bk,bt,⟨n_,ln_,e1_,e2_,e3_,hS⟩⟩
 ·refine anP.alloc spM hS bX cV rfl fun v w_ hS=>?_
  exact ⟨ax,ay,az,aA,aF,aH,aE,aM,aN,aR,aq,ar,aD,aP,aQ,aT,aU,aV,aZ,bg,fun _=>by first|assumption|trivial,bt,⟨n_,ln_,e1_,e2_,e3_,hS⟩⟩
 ·have OO:=bk ‹_›
  have OT:=bg ‹_›
  obtain ⟨S2,uu,rfl,huu⟩:=hS.val ‹D 19=true›
  refine anP.store spM hS ‹D 20=true› bX bj rfl rfl (KN hgu.sl hbu.sl hcu.sl huu.sl rfl) ‹D 19=true› rfl fun w_ hS=>?_
  exact ⟨ax,ay,az,aA,aF,aH,aE,aM,aN,aR,aq,ar,aD,aP,aQ,aT,aU,aV,aZ,bg,bk,fun _=>trivial,⟨n_,ln_,e1_,e2_,e3_,hS⟩⟩
 obtain rfl:n_=3:=kq ln_ e3_ ‹D 16=true›
 have Or:D 20=true:=by assumption
 have Ov:D 21=true:=by assumption
 clear e1_ e2_ e3_
 rw [Or,Ov] at hS
 obtain ⟨S2,b12,q12,hE2,rfl,⟨su,hq12,hsu⟩,hI⟩:=hS.fin
 obtain rfl:=Value.agg.inj hq12
 have hE02:=hE.trans hE2
 have hcu0:RdSl S2 7 (RdCh S2) cu s.st.chs:=by
  have:=hcu.monoCh hE2.1
  rw [hu1] at this
  simpa only [jq,if_pos,List.append_nil] using this
 obtain ⟨cua,cuc,rfl,_⟩:=id hcu0
 refine ⟨fun w'=>∃ S5 cc vv,Ext w.heap.size [] S2 S5/\RdSl S5 7 (RdCh S5) cc (s.st.chs++(if l=[] then [] else [⟨c.goal,c.rest,l,c.binds⟩]))/\RdSl S5 1 (RdVS S5) vv (s.saved++(if l=[] then [] else [s.steps]))/\
  Inv w [] [B4,B5,B6,B8,.blk b12 (.cells #[gu,bu,cc,su,vv] aW)] S5 w',?_,?_⟩
 ·refine bp hl1 cX ?_
  refine di ?_
  refine bz (fun hmo=>?_) (fun hmo=>?_)
  ·have hne:l≠[]:=fun e=>by rw [e] at hmo; simp at hmo
   rw [if_neg hne,if_neg hne]
   obtain ⟨mc,hmc⟩:∃ mc:Ch,mc=⟨c.goal,c.rest,l,c.binds⟩:=⟨_,rfl⟩
   rw [<- hmc]
   have hI:Inv w [] [B4,B5,B6,B8,.blk b12 (.cells #[gu,bu,.slice cua s.st.chs.length cuc,su,.slice sva s.saved.length svc] aW)] S2 w_:=hI
   refine aL hI 1 cR e5 rfl ?_
   refine bi hI iy fun b13 w' hI=>?_
   have hI:Inv w [] [B4,B5,B6,B8,.blk b12 (.cells #[gu,bu,.slice cua s.st.chs.length cuc,su,.slice sva s.saved.length svc] aW),.blk b13 (.cells zCh cn)] S2 w':=hI
   refine aG hI 5 rfl cR rfl rfl (by simpa using hcc.one) fun w' hI=>?_
   refine cM hI 5 rfl cO gU rfl (by obtain ⟨a,m,rfl,_⟩:=hl1; rfl) hl1.sl fun w' hI=>?_
   obtain ⟨B13,hB13⟩:∃ B:Item,B=.blk b13 (.cells #[.int .i64 c.goal.kind,.int .i64 c.goal.n,.string c.goal.name,kv,rv,lv1,bv] cn):=⟨_,rfl⟩
   have e13:=congrArg some hB13
   have hI:Inv w [] ([B4,B5,B6,B8,B13]++[.blk b12 (.cells #[gu,bu,.slice cua s.st.chs.length cuc,su,.slice sva s.saved.length svc] aW)]) S2 w':=by
    rw [hB13]
    exact hI.perm ((((List.Perm.swap _ _ _).cons _).cons _).cons _ |>.cons _)
   have hmr:RdCh S2 [.int .i64 c.goal.kind,.int .i64 c.goal.n,.string c.goal.name,kv,rv,lv1,bv] mc:=by
    rw [hmc]
    exact ⟨_,_,_,_,rfl,hgo0.mono hE02.1,hre.monoG hE02.1,hl1.mono hE2.1 fun _ _ h=>h,hbi.monoO hE02.1⟩
   have hsc2:=hsc.monoCh hE02.1
   refine ⟨fun D wJ xp wK wS u5 sy sJ tC uO pK w_=>(D 0=true->True)/\(D 1=true->uO=.pointer (some ⟨b4,0,none⟩))/\(D 2=true->tC=.pointer (some ⟨b4,2,none⟩))/\(D 3=true->sJ=.slice sca s.st.chs.length scc)/\(D 4=true->True)/\(D 5=true->u5=.agg #[.int .i64 c.goal.kind,.int .i64 c.goal.n,.string c.goal.name,kv,rv,lv1,bv])/\(D 6=true->True)/\(D 7=true->True)/\(D 8=true->xp=.pointer (some ⟨b12,0,none⟩))/\(D 9=true->wJ=.pointer (some ⟨b12,2,none⟩))/\(D 10=true->True)/\∃ n_:Nat,n_<=3/\D 0=decide (1<=n_)/\D 4=decide (2<=n_)/\D 7=decide (3<=n_)/\(apP w [] (fun cv=>[B4,B5,B6,B8,B13]++[.blk b12 (.cells #[gu,bu,cv,su,.slice sva s.saved.length svc] aW)]) (.slice cua s.st.chs.length cuc) cn 7 RdCh s.st.chs mc S2 (D 6) (D 10) pK sy wS wK w_ n_),⟨ac,ac,ac,ac,ac,ac,ac,ac,ac,ac,ac,⟨0,Nat.zero_le _,rfl,rfl,rfl,apP.mk hI.draw _ _ _ _⟩⟩,⟨?_,?_,?_,?_,?_,?_,?_,?_,?_,?_,?_,trivial⟩,?_⟩
   all_goals (intro D bX; intros; rename_i wJ xp wK wS u5 sy sJ tC uO pK w_ hA_; obtain ⟨ax,ay,az,aA,aF,aH,aE,aM,aN,aR,aq,⟨n_,ln_,e1_,e2_,e3_,hS⟩⟩:=hA_)
   ·obtain rfl:n_=0:=vo e1_ bX
    refine Mi hS dC fun v w_ hS=>?_
    exact ⟨fun _=>by first|assumption|trivial,ay,az,aA,aF,aH,aE,aM,aN,aR,aq,⟨1,by decide,rfl,(by first|exact e2_|rfl),(by first|exact e3_|rfl),hS⟩⟩
   ·refine aI bR ?_
    exact ⟨ax,fun _=>rfl,az,aA,aF,aH,aE,aM,aN,aR,aq,⟨n_,ln_,e1_,e2_,e3_,hS⟩⟩
   ·obtain rfl:=ay ‹_›
    refine aI cQ ?_
    exact ⟨ax,ay,fun _=>rfl,aA,aF,aH,aE,aM,aN,aR,aq,⟨n_,ln_,e1_,e2_,e3_,hS⟩⟩
   ·obtain rfl:=az ‹_›
    obtain ⟨S5,cv,R,hE5,hI⟩:=hS.inv; refine aX hI 0 cP e4 rfl ?_
    exact ⟨ax,ay,az,fun _=>rfl,aF,aH,aE,aM,aN,aR,aq,⟨n_,ln_,e1_,e2_,e3_,hS⟩⟩
   ·have Ol:=ax ‹_›
    obtain rfl:=aA ‹_›
    obtain rfl:n_=1:=gf e1_ ‹D 0=true› e2_ bX
    refine LP chM hS dC (by omega) hsc2 chL chO (by omega) (by omega) fun v w_ hS=>?_
    exact ⟨ax,ay,az,aA,fun _=>by first|assumption|trivial,aH,aE,aM,aN,aR,aq,⟨2,by decide,(by first|exact e1_|rfl),rfl,(by first|exact e3_|rfl),hS⟩⟩
   ·obtain ⟨S5,cv,R,hE5,hI⟩:=hS.inv; refine aL hI 4 cR e13 rfl ?_
    exact ⟨ax,ay,az,aA,aF,fun _=>rfl,aE,aM,aN,aR,aq,⟨n_,ln_,e1_,e2_,e3_,hS⟩⟩
   ·obtain rfl:=aH ‹_›
    refine Me chM hS dC (by omega) (by omega) rfl hmr chL fun v w_ hS=>?_
    exact ⟨ax,ay,az,aA,aF,aH,fun _=>by first|assumption|trivial,aM,aN,aR,aq,⟨n_,ln_,e1_,e2_,e3_,hS⟩⟩
   ·have NP:=aF ‹_›
    have JC:=aE ‹_›
    obtain rfl:n_=2:=gf e2_ ‹D 4=true› e3_ bX
    refine LY chM hS ‹D 6=true› dC (by omega) chL chO (by omega) (by omega) fun v w_ hS=>?_
    exact ⟨ax,ay,az,aA,aF,aH,aE,fun _=>by first|assumption|trivial,aN,aR,aq,⟨3,by decide,(by first|exact e1_|rfl),(by first|exact e2_|rfl),rfl,hS⟩⟩
   ·refine aI bR ?_
    exact ⟨ax,ay,az,aA,aF,aH,aE,aM,fun _=>rfl,aR,aq,⟨n_,ln_,e1_,e2_,e3_,hS⟩⟩
   ·obtain rfl:=aN ‹_›
    refine aI cQ ?_
    exact ⟨ax,ay,az,aA,aF,aH,aE,aM,aN,fun _=>rfl,aq,⟨n_,ln_,e1_,e2_,e3_,hS⟩⟩
   ·obtain rfl:=aR ‹_›
    have Gd:=aM ‹_›
    have hn3:=kq ln_ e3_ ‹D 7=true›
    have hS3:=hS
    rw [hn3] at hS3
    rw [bX] at hS3
    refine LX (C:=fun cv=>#[gu,bu,cv,su,.slice sva s.saved.length svc]) (fun _=>rfl) hS3 cP (fun _ _=>rfl) (fun _=>show 2<5 by decide) fun w_ hS4=>?_
    have hS:apP w [] (fun cv=>[B4,B5,B6,B8,B13]++[.blk b12 (.cells #[gu,bu,cv,su,.slice sva s.saved.length svc] aW)]) (.slice cua s.st.chs.length cuc) cn 7 RdCh s.st.chs mc S2 (ah D 10 6) (ah D 10 10) pK sy wS wK w_ n_:=by rw [hn3]; exact hS4
    exact ⟨ax,ay,az,aA,aF,aH,aE,aM,aN,aR,fun _=>trivial,⟨n_,ln_,e1_,e2_,e3_,hS⟩⟩
   obtain rfl:n_=3:=kq ln_ e3_ ‹D 7=true›
   have zr:D 10=true:=by assumption
   clear e1_ e2_ e3_
   rw [zr] at hS
   obtain ⟨S5,cc,hE5,hcc5,hI⟩:=hS.fin
   have hE05:=hE02.trans hE5
   have hsv5:=hsv.monoVS hE05.1
   have hys:RdVS S5 [.slice sta s.steps.length stc] s.steps:=⟨_,rfl,hst.monoSp hE05.1⟩
   refine ⟨fun D Lk J0 JY N8 NX NW Il EO zZ w_=>(D 0=true->True)/\(D 1=true->EO=.pointer (some ⟨b4,4,none⟩))/\(D 2=true->Il=.slice sva s.saved.length svc)/\(D 3=true->True)/\(D 4=true->NX=.pointer (some ⟨b4,3,none⟩))/\(D 5=true->N8=.slice sta s.steps.length stc)/\(D 6=true->True)/\(D 7=true->True)/\(D 8=true->Lk=.pointer (some ⟨b12,4,none⟩))/\(D 9=true->True)/\∃ n_:Nat,n_<=3/\D 0=decide (1<=n_)/\D 3=decide (2<=n_)/\D 7=decide (3<=n_)/\(apP w [] (fun cv=>[B4,B5,B6,B8,B13]++[.blk b12 (.cells #[gu,bu,cc,su,cv] aW)]) (.slice sva s.saved.length svc) nq 1 RdVS s.saved s.steps S5 (D 6) (D 9) zZ NW JY J0 w_ n_),⟨ac,ac,ac,ac,ac,ac,ac,ac,ac,ac,⟨0,Nat.zero_le _,rfl,rfl,rfl,apP.mk hI.draw _ _ _ _⟩⟩,⟨?_,?_,?_,?_,?_,?_,?_,?_,?_,?_,trivial⟩,?_⟩
   all_goals (intro D bX; intros; rename_i Lk J0 JY N8 NX NW Il EO zZ w_ hA_; obtain ⟨ax,ay,az,aA,aF,aH,aE,aM,aN,aR,⟨n_,ln_,e1_,e2_,e3_,hS⟩⟩:=hA_)
   ·obtain rfl:n_=0:=vo e1_ bX
    refine Mi hS gV fun v w_ hS=>?_
    exact ⟨fun _=>by first|assumption|trivial,ay,az,aA,aF,aH,aE,aM,aN,aR,⟨1,by decide,rfl,(by first|exact e2_|rfl),(by first|exact e3_|rfl),hS⟩⟩
   ·refine aI eR ?_
    exact ⟨ax,fun _=>rfl,az,aA,aF,aH,aE,aM,aN,aR,⟨n_,ln_,e1_,e2_,e3_,hS⟩⟩
   ·obtain rfl:=ay ‹_›
    obtain ⟨S6,cv,R,hE6,hI⟩:=hS.inv; refine aX hI 0 fL e4 rfl ?_
    exact ⟨ax,ay,fun _=>rfl,aA,aF,aH,aE,aM,aN,aR,⟨n_,ln_,e1_,e2_,e3_,hS⟩⟩
   ·have Ol:=ax ‹_›
    obtain rfl:=az ‹_›
    obtain rfl:n_=1:=gf e1_ ‹D 0=true› e2_ bX
    refine LP vsM hS gV (by omega) hsv5 vsL vsO (by omega) (by omega) fun v w_ hS=>?_
    exact ⟨ax,ay,az,fun _=>by first|assumption|trivial,aF,aH,aE,aM,aN,aR,⟨2,by decide,(by first|exact e1_|rfl),rfl,(by first|exact e3_|rfl),hS⟩⟩
   ·refine aI eV ?_
    exact ⟨ax,ay,az,aA,fun _=>rfl,aH,aE,aM,aN,aR,⟨n_,ln_,e1_,e2_,e3_,hS⟩⟩
   ·obtain rfl:=aF ‹_›
    obtain ⟨S6,cv,R,hE6,hI⟩:=hS.inv; refine aX hI 0 fG e4 rfl ?_
    exact ⟨ax,ay,az,aA,aF,fun _=>rfl,aE,aM,aN,aR,⟨n_,ln_,e1_,e2_,e3_,hS⟩⟩
   ·obtain rfl:=aH ‹_›
    refine Me vsM hS gV (by omega) (by omega) rfl hys vsL fun v w_ hS=>?_
    exact ⟨ax,ay,az,aA,aF,aH,fun _=>by first|assumption|trivial,aM,aN,aR,⟨n_,ln_,e1_,e2_,e3_,hS⟩⟩
   ·have Gu:=aA ‹_›
    have JC:=aE ‹_›
    obtain rfl:n_=2:=gf e2_ ‹D 3=true› e3_ bX
    refine LY vsM hS ‹D 6=true› gV (by omega) vsL vsO (by omega) (by omega) fun v w_ hS=>?_
    exact ⟨ax,ay,az,aA,aF,aH,aE,fun _=>by first|assumption|trivial,aN,aR,⟨3,by decide,(by first|exact e1_|rfl),(by first|exact e2_|rfl),rfl,hS⟩⟩
   ·refine aI eR ?_
    exact ⟨ax,ay,az,aA,aF,aH,aE,aM,fun _=>rfl,aR,⟨n_,ln_,e1_,e2_,e3_,hS⟩⟩
   ·obtain rfl:=aN ‹_›
    have Gd:=aM ‹_›
    have hn3:=kq ln_ e3_ ‹D 7=true›
    have hS3:=hS
    rw [hn3] at hS3
    rw [bX] at hS3
    refine LX (C:=fun cv=>#[gu,bu,cc,su,cv]) (fun _=>rfl) hS3 fL (fun _ _=>rfl) (fun _=>show 4<5 by decide) fun w_ hS4=>?_
    have hS:apP w [] (fun cv=>[B4,B5,B6,B8,B13]++[.blk b12 (.cells #[gu,bu,cc,su,cv] aW)]) (.slice sva s.saved.length svc) nq 1 RdVS s.saved s.steps S5 (ah D 9 6) (ah D 9 9) zZ NW JY J0 w_ n_:=by rw [hn3]; exact hS4
    exact ⟨ax,ay,az,aA,aF,aH,aE,aM,aN,fun _=>trivial,⟨n_,ln_,e1_,e2_,e3_,hS⟩⟩
   obtain rfl:n_=3:=kq ln_ e3_ ‹D 7=true›
   have ES:D 9=true:=by assumption
   clear e1_ e2_ e3_
   rw [ES] at hS
   obtain ⟨S6,vv,hE6,hvv,hI⟩:=hS.fin
   exact ⟨S6,cc,vv,hE5.trans hE6,hcc5.monoCh hE6.1,hvv,hI.pick [true,true,true,true,false,true]⟩
  ·have hnil:l=[]:=List.eq_nil_of_length_eq_zero (by omega)
   rw [if_pos hnil,if_pos hnil,List.append_nil,List.append_nil]
   exact ⟨S2,_,_,Ext.refl _ _ _,hcu0,hsv.monoVS hE02.1,hI⟩
 intro _ _ _ _ _ _ _ _ _ _ _ _ _ _ _ _ _ _ _ _ _ _ _ _ _ _ w'
 rintro ⟨S5,cc,vv,hE5,hcc5,hvv,hI⟩
 have hE05:=hE02.trans hE5
 have hres:RdSe S5 [gu,bu,cc,su,vv] (gA p s c u1 n l):=by
  refine ⟨_,_,_,_,_,rfl,hgu.monoG (hE2.trans hE5).1,hbu.monoO (hE2.trans hE5).1,hcc5,?_,hvv⟩
  have e:(gA p s c u1 (n:Int) l).steps=s.steps++[sp]:=by
   rw [hsp]
   simp only [gA,Int.toNat_natCast,hcl,Option.elim_some]
  rw [e]
  exact hsu.monoSp hE5.1
 refine aL hI 4 bj rfl rfl ?_
 refine aG (cs:=#[gu,bu,cc,su,vv]) hI 2 e6 bj rfl rfl (by simpa using hres.one) fun w' hI=>?_
 refine bE hI 2 bj rfl rfl ?_
 exact ⟨_,[],S5,rfl,hI.nil,hE05,rfl,_,rfl,hres⟩
end
end Go.Proofs.YtfcbhfjomgopbaaGreat

/- spec.l13Back. -/
namespace Go.Proofs.YtfcbhfjomgopbaaGreat
open Go Go.RowKit
theorem BackR.inv {p:List C} {cs:List Ch} {ss:List (List Sp)} {o:Option Se} (h:BackR p cs ss o) (hne:cs≠[]):∃ cs' c ss' t o1,cs=cs'++[c]/\ss=ss'++[t]/\TakeR p ⟨⟨[],[],cs'⟩,t,ss'⟩ c o1/\
  ((∃ s,o1=some s/\o=some s) ∨ (o1=none/\BackR p cs' ss' o)):=by
 cases h with
 | nil=>exact absurd rfl hne
 | hit h=>exact ⟨_,_,_,_,_,rfl,rfl,h,.inl ⟨_,rfl,rfl⟩⟩
 | miss h h2=>exact ⟨_,_,_,_,_,rfl,rfl,h,.inr ⟨rfl,h2⟩⟩
theorem BackR.none {p:List C} {cs:List Ch} {ss:List (List Sp)} {o:Option Se} (h:BackR p cs ss o) (he:cs=[]):o=Option.none:=by
 cases h with
 | nil=>rfl
 | hit h=>simp at he
 | miss h h2=>simp at he
def Nm (b:Nat) (w:World):Nat:=
 match w.heap[b]? with
 | some (Obj.cells c _ _)=>(match c[2]? with
  | some (Value.slice _ n _)=>n
  | _=>0)
 | _=>0
theorem Ij {w0 w:World} {X:List Nat} {L:List Item} {S:al} {c:Array Value} {a:Option Addr} {n m b i:Nat} {E:TypeId} (hI:Inv w0 X L S w) (hi:L[i]?=some (.blk b (.cells c E))) (hc:c[2]?=some (.slice a n m)):Nm b w=n:=by
 have hb:w.heap[b]?=_:=hI.its _ (List.mem_of_getElem? hi)
 unfold Nm
 rw [hb]
 simp only [hc]
def Np (o:Option Se):Value->List Item->al->Prop:=fun q I' S'=>I'=[]/\∃ cs:List Value,q=.tuple #[.agg cs.toArray,.bool o.isSome]/\cs.length=5/\(∀ u∈cs,u.oneCell'=true)/\∀ t,o=some t->RdSe S' cs t
section
attribute [local irreducible] Run CondV ag aO
set_option maxHeartbeats 2000000 in
theorem zy {p:List C} (hp:∀ cl∈p,pU cl) {k:Nat} (hk:k<=1000) {s:Se} {o:Option Se} (h:BackR p s.st.chs s.saved o) (hcs:∀ c∈s.st.chs,ix c/\okRk k c) (hn:s.st.chs.length<=1000) (hn3:s.saved.length=s.st.chs.length) (hv:∀ l∈s.saved,l.length<=1000)
  {S:al} {u:Value} {ss:List Value} (hP:RdSl S 5 (RdC S) u p) (hs:RdSe S ss s):Tri Tryz.prog Et [u,.agg ss.toArray] [] S (Np o):=by
 intro w hI
 refine vD ?_
 unfold rp
 refine bS hI fun b3 w' hI=>?_
 refine bi hI cV fun b4 w' hI=>?_
 obtain ⟨B4,hB4⟩:∃ B:Item,B=.blk b4 (.cells zSe aW):=⟨_,rfl⟩
 have e4:=congrArg some hB4
 have hI:Inv w [] [.blk b3 (.cells ss.toArray aW),B4] S w':=by rw [hB4]; exact hI
 refine ⟨fun w'=>∃ (S1:al) (cs:List Value) (s:Se),Ext w.heap.size [] S S1/\RdSe S1 cs s/\BackR p s.st.chs s.saved o/\(∀ c∈s.st.chs,ix c/\okRk k c)/\s.st.chs.length<=1000/\s.saved.length=s.st.chs.length/\(∀ l∈s.saved,l.length<=1000)/\
  Inv w [] [.blk b3 (.cells cs.toArray aW),B4] S1 w',Nm b3,⟨S,ss,s,Ext.refl _ _ _,hs,h,hcs,hn,hn3,hv,hI⟩,?_⟩
 clear hs h hcs hn hn3 hv hI
 intro _ _ _ _ _ _ _ _ _ _ _ _ _ t8 t42 t41 t40 t39 t38 t37 t36 t35 t34 t33 t32 t31 t30 t29 t28 t27 _ _ _ _ _ _ _ _ _ _ _ _ _ _ _ _ _ _ w'
 rintro ⟨S1,cs,s,hE,hs,h,hcs,hn,hn3,hv,hI⟩
 obtain ⟨gs,sb,sc,st,sv,rfl,hsg,hsb,hsc,hst,hsv⟩:=id hs
 obtain ⟨sca,scc,rfl,_⟩:=id hsc
 obtain ⟨sva,svc,rfl,_⟩:=id hsv
 have hme:=Ij hI (i:=0) (n:=s.st.chs.length) rfl rfl
 obtain ⟨B3,hB3⟩:∃ B:Item,B=.blk b3 (.cells #[gs,sb,.slice sca s.st.chs.length scc,st,.slice sva s.saved.length svc] aW):=⟨_,rfl⟩
 have e3:=congrArg some hB3
 have hI:Inv w [] [B3,B4] S1 w':=by rw [hB3]; exact hI
 refine aI bR ?_
 refine aI cQ ?_
 refine aX hI 0 cP e3 rfl ?_
 refine eT fM ?_
 refine di ?_
 refine bz (fun hpo=>?_) (fun hpo=>?_)
 ·have hne:s.st.chs≠[]:=fun e=>by rw [e] at hpo; simp at hpo
  obtain ⟨cs',c,ss',t,o1,ec,es,hT,hcase⟩:=h.inv hne
  have hlc:s.st.chs.length=cs'.length+1:=by rw [ec]; simp
  have hls:s.saved.length=ss'.length+1:=by rw [es]; simp
  have hl2:ss'.length=cs'.length:=by omega
  refine aI bR ?_
  refine aI cQ ?_
  refine aX hI 0 cP e3 rfl ?_
  refine eT fM ?_
  refine ic (by omega) ?_
  rw [show ((s.st.chs.length:Int) - 1)=(cs'.length:Int) by omega]
  refine aI bR ?_
  refine aI cQ ?_
  refine aX hI 0 cP e3 rfl ?_
  have hci:cs'.length<s.st.chs.length:=by omega
  refine cJ hI hsc fM cR hci (fun _ _=>RdCh.length) fun ds hds=>?_
  have hgc:s.st.chs[cs'.length]=c:=by
   have:∀ (l:List Ch) (h:cs'.length<l.length),l=cs'++[c]->l[cs'.length]=c:=by
    intro l h e
    subst e
    rw [List.getElem_append_right (Nat.le_refl _)]
    simp
   exact this _ _ ec
  rw [hgc] at hds
  have hmc:c∈s.st.chs:=by rw [ec]; simp
  refine bi hI iy fun b7 w' hI=>?_
  have hI:Inv w [] [B3,B4,.blk b7 (.cells zCh cn)] S1 w':=hI
  have hdl:=hds.length
  refine aG hI 2 rfl cR (by simpa using hdl) rfl (by simpa using hds.one) fun w' hI=>?_
  obtain ⟨B7,hB7⟩:∃ B:Item,B=.blk b7 (.cells ds.toArray cn):=⟨_,rfl⟩
  have e7:=congrArg some hB7
  have hI:Inv w [] [B3,B4,B7] S1 w':=by rw [hB7]; exact hI
  obtain ⟨lb,lo,lc2,lcs,lE,lfz,hlv,hlS,hlR⟩:=hsv.at_ (show cs'.length<s.saved.length by omega)
  have hla:sva=some ⟨lb,lo,none⟩:=by
   simp only [Value.slice.injEq] at hlv
   exact hlv.1
  have hgt:s.saved[cs'.length]'(by omega)=t:=by
   have:∀ (l:List (List Sp)) (h:cs'.length<l.length),l=ss'++[t]->l[cs'.length]=t:=by
    intro l h e
    subst e
    rw [List.getElem_append_right (by omega)]
    simp [hl2]
   exact this _ _ es
  rw [hgt] at hlR
  obtain ⟨tv,hce,htv⟩:=hlR
  obtain ⟨tva,tvc,rfl,_⟩:=id htv
  have hcell:lcs[lo+cs'.length * 1]?=some (.slice tva t.length tvc):=bh hce 0 _ rfl
  have hix:∀ {ty:TypeId} {K:Value->World->Prop} {w':World},K (.pointer (some ⟨lb,lo+cs'.length * 1,none⟩)) w'->Run Tryz.prog (sOp (.indexAddr Du (.const (.slice sva s.saved.length svc)) (.const (.int .i64 (cs'.length:Int)))) ty) w' K:=
   fun hk=>by rw [hla]; exact be oW (by omega) hk
  have htc:∀ v,RdSl S1 7 (RdCh S1) v (s.st.chs.take cs'.length)->RdSl S1 7 (RdCh S1) v cs':=by
   intro v h
   rw [ec,List.take_left' rfl] at h
   exact h
  have hts:∀ v,RdSl S1 1 (RdVS S1) v (s.saved.take cs'.length)->RdSl S1 1 (RdVS S1) v ss':=by
   intro v h
   rw [es,List.take_left' hl2] at h
   exact h
  refine ⟨fun D x8 ni lx tV jf iz ow jI kP ul lI rN jP jc jK gC mz w_=>(D 0=true->mz=.pointer (some ⟨b3,0,none⟩))/\(D 1=true->gC=.pointer (some ⟨b3,2,none⟩))/\(D 2=true->jK=.slice sca s.st.chs.length scc)/\(D 3=true->jc=.int .i64 (cs'.length:Int))/\(D 4=true->RdSl S1 7 (RdCh S1) jP cs')/\(D 5=true->∃ cc,rN=.agg #[.slice none 0 0,.slice none 0 0,cc]/\RdSl S1 7 (RdCh S1) cc cs')/\(D 6=true->lI=.pointer (some ⟨b3,4,none⟩))/\(D 7=true->ul=.slice sva s.saved.length svc)/\(D 8=true->kP=.int .i64 (cs'.length:Int))/\(D 9=true->jI=.pointer (some ⟨lb,lo+cs'.length * 1,none⟩))/\(D 10=true->ow=.slice tva t.length tvc)/\(D 11=true->iz=.pointer (some ⟨b3,4,none⟩))/\(D 12=true->jf=.slice sva s.saved.length svc)/\(D 13=true->tV=.int .i64 (cs'.length:Int))/\(D 14=true->RdSl S1 1 (RdVS S1) lx ss')/\(D 15=true->∃ cc ll,ni=.agg #[.slice none 0 0,.slice none 0 0,cc,.slice tva t.length tvc,ll]/\RdSl S1 7 (RdCh S1) cc cs'/\RdSl S1 1 (RdVS S1) ll ss')/\(D 16=true->True)/\(D 17=true->True)/\nwP w [] [B3,B4,B7] aW zSe (fun _ q=>∃ cc ll,q=#[.slice none 0 0,.slice none 0 0,cc,.slice tva t.length tvc,ll]/\RdSl S1 7 (RdCh S1) cc cs'/\RdSl S1 1 (RdVS S1) ll ss') (D 16) (D 17) x8 S1 w_,⟨ac,ac,ac,ac,ac,ac,ac,ac,ac,ac,ac,ac,ac,ac,ac,ac,ac,ac,nwP.mk hI.draw _⟩,⟨?_,?_,?_,?_,?_,?_,?_,?_,?_,?_,?_,?_,?_,?_,?_,?_,?_,?_,trivial⟩,?_⟩
  all_goals (intro D bX; intros; rename_i x8 ni lx tV jf iz ow jI kP ul lI rN jP jc jK gC mz w_ hA_; obtain ⟨ax,ay,az,aA,aF,aH,aE,aM,aN,aR,aq,ar,aD,aP,aQ,aT,aU,aV,hN⟩:=hA_)
  ·refine aI bR ?_
   exact ⟨fun _=>rfl,ay,az,aA,aF,aH,aE,aM,aN,aR,aq,ar,aD,aP,aQ,aT,aU,aV,hN⟩
  ·obtain rfl:=ax ‹_›
   refine aI cQ ?_
   exact ⟨ax,fun _=>rfl,az,aA,aF,aH,aE,aM,aN,aR,aq,ar,aD,aP,aQ,aT,aU,aV,hN⟩
  ·obtain rfl:=ay ‹_›
   obtain ⟨R,hI⟩:=hN.inv; refine aX hI 0 cP e3 rfl ?_
   exact ⟨ax,ay,fun _=>rfl,aA,aF,aH,aE,aM,aN,aR,aq,ar,aD,aP,aQ,aT,aU,aV,hN⟩
  ·exact ⟨ax,ay,az,fun _=>rfl,aF,aH,aE,aM,aN,aR,aq,ar,aD,aP,aQ,aT,aU,aV,hN⟩
  ·obtain rfl:=az ‹_›
   obtain rfl:=aA ‹_›
   refine A5 fM hsc (by omega) fun v' hv'=>?_
   have hv':=htc _ hv'
   exact ⟨ax,ay,az,aA,fun _=>by first|assumption|trivial,aH,aE,aM,aN,aR,aq,ar,aD,aP,aQ,aT,aU,aV,hN⟩
  ·have NP:=aF ‹_›
   obtain ⟨ca,cc,rfl,_⟩:=id NP
   refine Hz ?_
   have hq:∃ cc',Value.agg #[.slice none 0 0,.slice none 0 0,.slice ca cs'.length cc]=.agg #[.slice none 0 0,.slice none 0 0,cc']/\RdSl S1 7 (RdCh S1) cc' cs':=⟨_,rfl,NP⟩
   exact ⟨ax,ay,az,aA,aF,fun _=>by first|assumption|trivial,aE,aM,aN,aR,aq,ar,aD,aP,aQ,aT,aU,aV,hN⟩
  ·refine aI eR ?_
   exact ⟨ax,ay,az,aA,aF,aH,fun _=>rfl,aM,aN,aR,aq,ar,aD,aP,aQ,aT,aU,aV,hN⟩
  ·obtain rfl:=aE ‹_›
   obtain ⟨R,hI⟩:=hN.inv; refine aX hI 0 fL e3 rfl ?_
   exact ⟨ax,ay,az,aA,aF,aH,aE,fun _=>rfl,aN,aR,aq,ar,aD,aP,aQ,aT,aU,aV,hN⟩
  ·exact ⟨ax,ay,az,aA,aF,aH,aE,aM,fun _=>rfl,aR,aq,ar,aD,aP,aQ,aT,aU,aV,hN⟩
  ·obtain rfl:=aM ‹_›
   obtain rfl:=aN ‹_›
   refine hix ?_
   exact ⟨ax,ay,az,aA,aF,aH,aE,aM,aN,fun _=>rfl,aq,ar,aD,aP,aQ,aT,aU,aV,hN⟩
  ·obtain rfl:=aR ‹_›
   obtain ⟨R,hI⟩:=hN.inv; refine dc fG ((hI.cellS hlS).trans hcell) ?_
   exact ⟨ax,ay,az,aA,aF,aH,aE,aM,aN,aR,fun _=>rfl,ar,aD,aP,aQ,aT,aU,aV,hN⟩
  ·refine aI eR ?_
   exact ⟨ax,ay,az,aA,aF,aH,aE,aM,aN,aR,aq,fun _=>rfl,aD,aP,aQ,aT,aU,aV,hN⟩
  ·obtain rfl:=ar ‹_›
   obtain ⟨R,hI⟩:=hN.inv; refine aX hI 0 fL e3 rfl ?_
   exact ⟨ax,ay,az,aA,aF,aH,aE,aM,aN,aR,aq,ar,fun _=>rfl,aP,aQ,aT,aU,aV,hN⟩
  ·exact ⟨ax,ay,az,aA,aF,aH,aE,aM,aN,aR,aq,ar,aD,fun _=>rfl,aQ,aT,aU,aV,hN⟩
  ·obtain rfl:=aD ‹_›
   obtain rfl:=aP ‹_›
   refine A5 oW hsv (by omega) fun v' hv'=>?_
   have hv':=hts _ hv'
   exact ⟨ax,ay,az,aA,aF,aH,aE,aM,aN,aR,aq,ar,aD,aP,fun _=>by first|assumption|trivial,aT,aU,aV,hN⟩
  ·have Kz:=aH ‹_›
   obtain rfl:=aq ‹_›
   have KA:=aQ ‹_›
   obtain ⟨cc,rfl,hcc⟩:=Kz
   obtain ⟨la,lc,rfl,_⟩:=id KA
   refine Br ?_
   have hq:∃ cc' ll',Value.agg #[.slice none 0 0,.slice none 0 0,cc,.slice tva t.length tvc,.slice la ss'.length lc]=.agg #[.slice none 0 0,.slice none 0 0,cc',.slice tva t.length tvc,ll']/\RdSl S1 7 (RdCh S1) cc' cs'/\RdSl S1 1 (RdVS S1) ll' ss':=⟨_,_,rfl,hcc,KA⟩
   exact ⟨ax,ay,az,aA,aF,aH,aE,aM,aN,aR,aq,ar,aD,aP,aQ,fun _=>by first|assumption|trivial,aU,aV,hN⟩
  ·refine nwP.alloc hN bX cV rfl fun v w_ hN=>?_
   exact ⟨ax,ay,az,aA,aF,aH,aE,aM,aN,aR,aq,ar,aD,aP,aQ,aT,fun _=>by first|assumption|trivial,aV,hN⟩
  ·have Lz:=aU ‹_›
   have JQ:=aT ‹_›
   obtain ⟨cc,ll,rfl,hcc,hll⟩:=JQ
   refine nwP.store hN ‹D 16=true› bX bj rfl rfl (KN rfl rfl hcc.sl rfl hll.sl) ⟨cc,ll,rfl,hcc,hll⟩ fun w_ hN=>?_
   exact ⟨ax,ay,az,aA,aF,aH,aE,aM,aN,aR,aq,ar,aD,aP,aQ,aT,aU,fun _=>trivial,hN⟩
  have Lz:=aU ‹_›
  have JQ:=aT ‹_›
  have KA:=aQ ‹_›
  obtain rfl:=aP ‹_›
  obtain rfl:=aD ‹_›
  obtain rfl:=ar ‹_›
  obtain rfl:=aq ‹_›
  obtain rfl:=aR ‹_›
  obtain rfl:=aN ‹_›
  obtain rfl:=aM ‹_›
  obtain rfl:=aE ‹_›
  have Kz:=aH ‹_›
  have NP:=aF ‹_›
  obtain rfl:=aA ‹_›
  obtain rfl:=az ‹_›
  obtain rfl:=ay ‹_›
  obtain rfl:=ax ‹_›
  have OE:D 16=true:=by assumption
  have Oq:D 17=true:=by assumption
  clear ax ay az aA aF aH aE aM aN aR aq ar aD aP aQ aT aU aV
  rw [OE,Oq] at hN
  obtain ⟨b8,q8,rfl,⟨cc,ll,rfl,hcc,hll⟩,hI⟩:=hN.fin
  obtain ⟨B8,hB8⟩:∃ B:Item,B=.blk b8 (.cells #[.slice none 0 0,.slice none 0 0,cc,.slice tva t.length tvc,ll] aW):=⟨_,rfl⟩
  have e8:=congrArg some hB8
  have hI:Inv w [] [B3,B4,B7,B8] S1 w_:=by rw [hB8]; exact hI
  have hy:RdSe S1 [.slice none 0 0,.slice none 0 0,cc,.slice tva t.length tvc,ll] ⟨⟨[],[],cs'⟩,t,ss'⟩:=⟨_,_,_,_,_,rfl,RdSl.nil0 ..,RdSl.nil0 ..,hcc,htv,hll⟩
  refine aL hI 3 bj e8 rfl ?_
  refine aL hI 2 cR e7 (by simpa using hdl) ?_
  refine Run.call0E ri qL hI (oQ hp hk (hcs c hmc).1 (hcs c hmc).2 hT (by simp only; omega) (hv t (by rw [es]; simp)) (by simp only; omega) (hP.monoC hE.1) hy hds) fun v' I' S2 w'=>?_
  rintro ⟨rfl,ns,rfl,hns⟩ hE2 hI
  have hI:Inv w [] [B3,B4,B7,B8] S2 w':=hI
  have hnl:=hns.length
  refine aB (v:=.agg ns.toArray) rfl ?_
  refine aB (v:=.bool o1.isSome) rfl ?_
  refine bi hI cV fun b9 w' hI=>?_
  have hI:Inv w [] [B3,B4,B7,B8,.blk b9 (.cells zSe aW)] S2 w':=hI
  refine aG hI 4 rfl bj (by simpa using hnl) rfl (by simpa using hns.one) fun w' hI=>?_
  have hI:Inv w [] [B3,B4,B7,B8,.blk b9 (.cells ns.toArray aW)] S2 w':=hI
  rcases hcase with ⟨s1,rfl,rfl⟩|⟨rfl,hB⟩
  ·refine aS (fun _=>?_) (fun hb=>by cases hb)
   refine aL hI 4 bj rfl (by simpa using hnl) ?_
   refine aG hI 1 e4 bj (by simpa using hnl) rfl (by simpa using hns.one) fun w' hI=>?_
   refine bE hI 1 bj rfl (by simpa using hnl) ?_
   exact ⟨_,[],S2,rfl,hI.nil,hE.trans hE2,rfl,ns,rfl,hnl,hns.one,fun t e=>by rw [Option.some.injEq] at e; subst e; exact hns⟩
  ·refine aS (fun hb=>by cases hb) (fun _=>?_)
   refine aL hI 3 bj e8 rfl ?_
   refine aG hI 0 e3 bj rfl rfl (by simpa using hy.one) fun w' hI=>?_
   have hI:Inv w [] [.blk b3 (.cells #[.slice none 0 0,.slice none 0 0,cc,.slice tva t.length tvc,ll] aW),B4,B7,B8,.blk b9 (.cells ns.toArray aW)] S2 w':=hI
   obtain ⟨ca,cm,rfl,_⟩:=id hcc
   have hme2:=Ij hI (i:=0) (n:=cs'.length) rfl rfl
   refine ⟨⟨S2,_,⟨⟨[],[],cs'⟩,t,ss'⟩,hE.trans hE2,hy.mono hE2.1,hB,fun d hd=>hcs d (by rw [ec]; exact List.mem_append_left _ hd),by simp only; omega,hl2,fun l hl=>hv l (by rw [es]; exact List.mem_append_left _ hl),hI.pick [true,true]⟩,?_⟩
   rw [hme2,hme]
   omega
 ·have hnil:s.st.chs=[]:=List.eq_nil_of_length_eq_zero (by omega)
  have ho:=h.none hnil
  subst ho
  refine aL hI 0 bj e3 rfl ?_
  refine aG hI 1 e4 bj rfl rfl (by simpa using hs.one) fun w' hI=>?_
  refine bE hI 1 bj rfl rfl ?_
  exact ⟨_,[],S1,rfl,hI.nil,hE,rfl,_,rfl,hs.length,hs.one,fun t e=>by cases e⟩
end
end Go.Proofs.YtfcbhfjomgopbaaGreat
