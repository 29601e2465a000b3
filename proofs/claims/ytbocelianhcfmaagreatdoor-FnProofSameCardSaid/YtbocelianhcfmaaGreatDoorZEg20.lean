/- groups of operations in free order: a new variable that is stored, a row that grows by a row and one element. -/
import Derived.Test.YtbocelianhcfmaaGreatDoorZEg19
import Derived.Test.YtbocelianhcfmaaGreatDoorZEg16
import Derived.Test.YtbocelianhcfmaaGreatDoorZEg14
namespace Go.Proofs.YtbocelianhcfmaaGreatDoor
section
open Go Go.RowKit
def nwP (w0:World) (X:List Nat) (A:List Item) (T:TypeId) (z:Array Value) (Q:ae->Array Value->Prop) (da ds:Bool) (x:Value) (S:ae) (w:World):Prop:=
 ∃ b q,(da=true->x=.pointer (some ⟨b,0,none⟩))/\(ds=true->da=true)/\(ds=false->q=z)/\(ds=true->Q S q)/\Inv w0 X (A++cond da [.blk b (.cells q T)] []) S w
section
variable {w0 w:World} {X:List Nat} {A:List Item} {T:TypeId} {z:Array Value} {Q:ae->Array Value->Prop} {da ds:Bool} {x:Value} {S:ae}
theorem nwP.mk (h:Inv w0 X A S w) (x:Value):nwP w0 X A T z Q false false x S w:=⟨0,z,fun h=>(by cases h),fun h=>(by cases h),fun _=>rfl,fun h=>(by cases h),by rw [cond_false,List.append_nil]; exact h⟩
theorem nwP.ex (hQ:∀ S S' q,Sle S S'->Q S q->Q S' q) (h:nwP w0 X A T z Q da ds x S w):∃ B,Inv w0 X (A++B) S w/\∀ S' w',Sle S S'->Inv w0 X (A++B) S' w'->nwP w0 X A T z Q da ds x S' w':=by
 obtain ⟨b,q,h1,h2,h3,h4,h5⟩:=h
 exact ⟨_,h5,fun S' w' hs hI=>⟨b,q,h1,h2,h3,fun h=>hQ _ _ _ hs (h4 h),hI⟩⟩
theorem nwP.inv (h:nwP w0 X A T z Q da ds x S w):∃ B,Inv w0 X (A++B) S w:=by
 obtain ⟨b,q,h1,h2,h3,h4,h5⟩:=h
 exact ⟨_,h5⟩
theorem nwP.fin (h:nwP w0 X A T z Q true true x S w):∃ b q,x=.pointer (some ⟨b,0,none⟩)/\Q S q/\Inv w0 X (A++[.blk b (.cells q T)]) S w:=by
 obtain ⟨b,q,h1,h2,h3,h4,h5⟩:=h
 exact ⟨b,q,h1 rfl,h4 rfl,h5⟩
end
section
variable {P:Program} {w0 w:World} {X:List Nat} {A:List Item} {T:TypeId} {z:Array Value} {Q:ae->Array Value->Prop} {da ds:Bool} {x:Value} {S:ae} {K:Value->World->Prop}
attribute [local irreducible] Run
theorem nwP.alloc {ty:TypeId} {zv:Value} (h:nwP w0 X A T z Q da ds x S w) (hd:da=false) (hz:g8 P T=some zv) (hzc:zv.cells=z) (hk:∀ v w',nwP w0 X A T z Q true ds v S w'->K v w'):Run P (sOp (.alloc T) ty) w K:=by
 obtain ⟨b,q,h1,h2,h3,h4,h5⟩:=h
 have hds:ds=false:=Bool.eq_false_iff.2 fun e=>by rw [h2 e] at hd; cases hd
 rw [hd,cond_false,List.append_nil] at h5
 refine aA h5 hz fun b w' hI=>hk _ w' ⟨b,z,fun _=>rfl,fun _=>rfl,fun _=>rfl,fun e=>(by rw [hds] at e; cases e),?_⟩
 rw [cond_true,<- hzc]
 exact hI
theorem nwP.store {ty:TypeId} {n:Nat} {cs:Array Value} (h:nwP w0 X A T z Q da ds x S w) (hd:da=true) (hs:ds=false) (hT:jV P T=some n) (hn:cs.size=n) (hz:z.size=n) (h1:∀ u∈cs.toList,u.oneCell'=true) (hQ:Q S cs)
  (hk:∀ w',nwP w0 X A T z Q da true x S w'->K undef w'):Run P (sOp (.store T (.const x) (.const (.agg cs))) ty) w K:=by
 obtain ⟨b,q,g1,g2,g3,g4,g5⟩:=h
 rw [hd,cond_true,g3 hs] at g5
 rw [g1 hd]
 refine aj (E:=T) g5 A.length (by simp) hT hn hz h1 fun w' hI=>?_
 have e:(A++[Item.blk b (.cells z T)]).set A.length (.blk b (.cells cs T))=A++[.blk b (.cells cs T)]:=by simp
 rw [e] at hI
 exact hk w' ⟨b,cs,g1,fun _=>hd,fun e=>(by cases e),fun _=>hQ,by rw [hd]; exact hI⟩
end
def apP {α:Type} (w0:World) (X:List Nat) (A:Value->List Item) (z:Value) (T:TypeId) (k:Nat) (R:ae->List Value->α->Prop) (xs:List α) (y:α) (S0:ae) (d5 d8:Bool) (v0 v1 v5 v2:Value) (w:World) (n:Nat):Prop:=
 ∃ S1 cv,Ext w0.heap.size X S0 S1/\(d5=true->RdSl S1 k (R S1) v5 [y])/\(d8=false->cv=z)/\(d8=true->RdSl S1 k (R S1) cv (xs++[y]))/\apC w0 X (A cv) T k R xs y S1 v0 v1 v2 w n
section
variable {α:Type} {P:Program} {w0 w:World} {X:List Nat} {A:Value->List Item} {z:Value} {e:TypeId} {k:Nat} {R:ae->List Value->α->Prop} {xs:List α} {y:α} {S0:ae} {d5 d8:Bool} {v0 v1 v5 v2:Value} {n:Nat} {K:Value->World->Prop}
attribute [local irreducible] Run
theorem apP.mk {S:ae} (h:Inv w0 X (A z) S w) (v0 v1 v5 v2:Value):apP w0 X A z e k R xs y S false false v0 v1 v5 v2 w 0:=⟨S,z,Ext.refl _ _ _,fun h=>(by cases h),fun _=>rfl,fun h=>(by cases h),h⟩
theorem apP.inv (h:apP w0 X A z e k R xs y S0 d5 d8 v0 v1 v5 v2 w n):∃ S1 cv B,Ext w0.heap.size X S0 S1/\Inv w0 X (A cv++B) S1 w:=by
 obtain ⟨S1,cv,h1,h2,h3,h4,h5⟩:=h
 obtain ⟨B,hI⟩:=h5.inv
 exact ⟨S1,cv,B,h1,hI⟩
theorem apP.inv0 (h:apP w0 X A z e k R xs y S0 d5 d8 v0 v1 v5 v2 w n) (hd:d8=false):∃ S1 B,Ext w0.heap.size X S0 S1/\Inv w0 X (A z++B) S1 w:=by
 obtain ⟨S1,cv,h1,h2,h3,h4,h5⟩:=h
 obtain ⟨B,hI⟩:=h5.inv
 rw [h3 hd] at hI
 exact ⟨S1,B,h1,hI⟩
theorem apP.fin (h:apP w0 X A z e k R xs y S0 d5 true v0 v1 v5 v2 w 3):∃ S1 cv,Ext w0.heap.size X S0 S1/\RdSl S1 k (R S1) cv (xs++[y])/\Inv w0 X (A cv) S1 w:=by
 obtain ⟨S1,cv,h1,h2,h3,h4,h5⟩:=h
 exact ⟨S1,cv,h1,h4 rfl,h5.2⟩
theorem NZ {T:TypeId} {by_:Nat} {zv:Value} (h:apP w0 X A z e k R xs y S0 d5 d8 v0 v1 v5 v2 w 0) (hT:fb P T=some (e,k,by_,zv))
  (hk:∀ v w',apP w0 X A z e k R xs y S0 d5 d8 v v1 v5 v2 w' 1->K v w'):Run P (bi T 0 []) w K:=by
 obtain ⟨S1,cv,h1,h2,h3,h4,h5⟩:=h
 exact Qg h5 hT fun v w' h=>hk v w' ⟨S1,cv,h1,h2,h3,h4,h⟩
theorem MU {T ty:TypeId} {by_:Nat} {zv u:Value} {cs:List Bool} (hR:∀ S S' cs x,Sle S S'->R S cs x->R S' cs x) (h:apP w0 X A z e k R xs y S0 d5 d8 v0 v1 v5 v2 w 1) (hT:fb P T=some (e,k,by_,zv)) (hk0:0<k) (hu:RdSl S0 k (R S0) u xs)
  (hlen:∀ S cs y,R S cs y->cs.length=k) (ho:∀ S cs y,R S cs y->∀ c∈cs,c.oneCell'=true) (hl:xs.length<=4294967296) (hby:by_<=32768)
  (hk:∀ v w',apP w0 X A z e k R xs y S0 d5 d8 v0 v v5 v2 w' 2->K v w'):Run P (bx .append #[T,T] ty cs [v0,u]) w K:=by
 obtain ⟨S1,cv,h1,h2,h3,h4,h5⟩:=h
 exact PM h5 hT hk0 (hu.mono h1.1 fun _ _ h=>hR _ _ _ _ h1.1 h) (hlen S1) (ho S1) hl hby fun v w' h=>hk v w' ⟨S1,cv,h1,h2,h3,h4,h⟩
theorem Nj {T:TypeId} {by_:Nat} {zv:Value} {cs:List Value} (hR:∀ S S' cs x,Sle S S'->R S cs x->R S' cs x) (h:apP w0 X A z e k R xs y S0 d5 d8 v0 v1 v5 v2 w n) (hT:fb P T=some (e,k,by_,zv)) (hk0:0<k) (hk24:k<=65536)
  {v:Value} (hvc:v.cells=cs.toArray) (hy:R S0 cs y) (hlen:∀ S cs y,R S cs y->cs.length=k)
  (hk:∀ v w',apP w0 X A z e k R xs y S0 true d8 v0 v1 v v2 w' n->K v w'):Run P (bi T 1 [(0,v)]) w K:=by
 obtain ⟨S1,cv,h1,h2,h3,h4,h5⟩:=h
 obtain ⟨B,hI,hback⟩:=h5.ex hR
 have hl:=hlen _ _ _ hy
 refine dH hI hT (by rw [hvc]; simpa using hl) hk24 hk0 fun b w' hI=>?_
 obtain ⟨S2,hI,hE,hb⟩:=Inv.pub1 hI
 rw [hvc] at hb
 exact hk _ w' ⟨S2,cv,h1.trans hE,fun _=>RdSl.single hb hl (hR _ _ _ _ (h1.trans hE).1 hy),h3,fun e=>(h4 e).mono hE.1 fun _ _ h=>hR _ _ _ _ hE.1 h,hback _ S2 w' hE.1 hI⟩
theorem N9 {T ty:TypeId} {by_:Nat} {zv:Value} {cs:List Bool} (hR:∀ S S' cs x,Sle S S'->R S cs x->R S' cs x) (h:apP w0 X A z e k R xs y S0 d5 d8 v0 v1 v5 v2 w 2) (hd:d5=true) (hT:fb P T=some (e,k,by_,zv)) (hk0:0<k)
  (hlen:∀ S cs y,R S cs y->cs.length=k) (ho:∀ S cs y,R S cs y->∀ c∈cs,c.oneCell'=true) (hl:xs.length+1<=4294967296) (hby:by_<=32768)
  (hk:∀ v w',apP w0 X A z e k R xs y S0 d5 d8 v0 v1 v5 v w' 3->K v w'):Run P (bx .append #[T,T] ty cs [v1,v5]) w K:=by
 obtain ⟨S1,cv,h1,h2,h3,h4,h5⟩:=h
 exact P7 hR h5 hT hk0 (h2 hd) (hlen S1) (ho S1) hl hby fun v S' w' hE h=>hk v w' ⟨S',cv,h1.trans hE,fun e=>(h2 e).mono hE.1 fun _ _ h=>hR _ _ _ _ hE.1 h,h3,fun e=>(h4 e).mono hE.1 fun _ _ h=>hR _ _ _ _ hE.1 h,h⟩
theorem ND {U ty E:TypeId} {b d:Nat} {A0:List Item} {C:Value->Array Value} (hA:∀ v,A v=A0++[.blk b (.cells (C v) E)]) (h:apP w0 X A z e k R xs y S0 d5 d8 v0 v1 v5 v2 w 3) (hU:jc P U=true)
  (hC:∀ v v',(C v).setIfInBounds d v'=C v') (hlt:∀ v,d<(C v).size) (hk:∀ w',apP w0 X A z e k R xs y S0 d5 true v0 v1 v5 v2 w' 3->K undef w') :
  Run P (sOp (.store U (.const (.pointer (some ⟨b,d,none⟩))) (.const v2)) ty) w K:=by
 obtain ⟨S1,cv,h1,h2,h3,h4,h5,h6⟩:=h
 rw [hA] at h6
 obtain ⟨a,m,rfl,_⟩:=id h5
 refine dB h6 A0.length (b:=b) (o:=d) (E:=E) (c:=C cv) (n:=1) (v:=.slice a (xs++[y]).length m) rfl (by rw [hU]; simp) (by simp) (by have:=hlt cv; omega) (by simp [Value.cells,Value.oneCell']) fun w' hI=>?_
 have hp:bk (C cv) d (Value.slice a (xs++[y]).length m).cells.toList=C (.slice a (xs++[y]).length m):=by
  refine Eq.trans ?_ (hC cv _)
  apply Array.toList_inj.1
  simp only [bk,Array.toList_setIfInBounds]
  have hl:d<(C cv).toList.length:=by simpa using hlt cv
  rw [List.set_eq_take_append_cons_drop,if_pos hl]
  simp [Value.cells]
 rw [hp] at hI
 have e2:(A0++[Item.blk b (.cells (C cv) E)]).set A0.length (.blk b (.cells (C (.slice a (xs++[y]).length m)) E))=A (.slice a (xs++[y]).length m):=by rw [hA]; simp
 rw [e2] at hI
 exact hk w' ⟨S1,_,h1,h2,fun e=>(by cases e),fun _=>h5,h5,hI⟩
end
end
section
open Go Go.RowKit
theorem Nn {c d:List Value} {n i k:Nat} (h:c.take n=d.take n) (hi:i+k<=n):(c.drop i).take k=(d.drop i).take k:=by
 have e:∀ l:List Value,(l.drop i).take k=((l.take n).drop i).take k:=fun l=>by
  rw [List.drop_take,List.take_take,Nat.min_eq_left (by omega)]
 rw [e c,e d,h]
theorem KnU.grown {S:ae} {c cur:Array Value} {st:aG} {m:Nat} {z:Array Value} (hz:z=#[.int .i64 0,.int .i64 0,.string ⟨#[]⟩,.slice none 0 0]) (h:KnU S cur st) (hs:(st.length+m) * 4<=c.size)
  (ht:c.toList.take ((st.length+m) * 4)=cur.toList.take (st.length * 4)++(Builtin.zeroCells z m).toList):KnU S c (st++List.replicate m none):=by
 have hZ:=KnU.zero z hz S m
 have hz4:z.size=4:=by rw [hz]; rfl
 have hZe:Builtin.zeroCells z m=(Array.range (m * 4)).map (z[· % z.size]!):=by rw [Builtin.zeroCells,hz4]
 have h1:=h.1
 have hlen:(cur.toList.take (st.length * 4)).length=st.length * 4:=by rw [List.length_take]; have:cur.toList.length=cur.size:=rfl; omega
 refine KnU.of (by rw [List.length_append,List.length_replicate]; exact hs) fun i hi=>?_
 rw [List.length_append,List.length_replicate] at hi
 by_cases hl:i<st.length
 ·rw [List.getElem_append_left hl]
  have e:aL c (i * 4) 4=aL cur (i * 4) 4:=by
   rw [aL,aL]
   refine Nn (n:=st.length * 4) ?_ (by omega)
   have:=congrArg (List.take (st.length * 4)) ht
   rw [List.take_take,Nat.min_eq_left (by omega),List.take_append_of_le_length (by omega),List.take_take,Nat.min_self] at this
   exact this
  rw [e]
  exact h.rdO i hl
 ·rw [List.getElem_append_right (by omega),List.getElem_replicate]
  have hj:i - st.length<(List.replicate m (none:Option T)).length:=by rw [List.length_replicate]; omega
  have hr:=hZ.rdO (i - st.length) hj
  rw [List.getElem_replicate] at hr
  have e:aL c (i * 4) 4=aL ((Array.range (m * 4)).map (z[· % z.size]!)) ((i - st.length) * 4) 4:=by
   rw [aL,aL,<- hZe]
   have e1:(c.toList.drop (i * 4)).take 4=((c.toList.take ((st.length+m) * 4)).drop (i * 4)).take 4:=by
    rw [List.drop_take,List.take_take,Nat.min_eq_left (by omega)]
   rw [e1,ht,List.drop_append,hlen,List.drop_eq_nil_of_le (by rw [hlen]; omega),List.nil_append]
   rw [show i * 4 - st.length * 4=(i - st.length) * 4 by omega]
  rw [e]
  exact hr
theorem KF {z:Array Value} (hz:z=#[.int .i64 0,.int .i64 0,.string ⟨#[]⟩,.slice none 0 0]) (m:Nat):∀ u∈(Builtin.zeroCells z m).toList,u.oneCell'=true:=by
 subst hz
 intro u hu
 simp only [Builtin.zeroCells,Array.toList_map,List.mem_map] at hu
 obtain ⟨i,_,rfl⟩:=hu
 have:i % 4<4:=Nat.mod_lt _ (by omega)
 have h4:(#[.int .i64 0,.int .i64 0,.string ⟨#[]⟩,.slice none 0 0]:Array Value).size=4:=rfl
 rw [h4]
 match i % 4,this with
 | 0,_=>rfl
 | 1,_=>rfl
 | 2,_=>rfl
 | 3,_=>rfl
section
variable {P:Program} {w w0:World} {X:List Nat} {A:List Item} {S S1:ae} {K:Value->World->Prop}
attribute [local irreducible] Run CondV ar aI
theorem H7 {T U ty e:TypeId} {by_ m:Nat} {z v:Value} {cs:List Bool} {css:List (List Value)} {st:aG} (h:Inv w0 X (A++[aP v e 4 css]) S w) (hR:Rows 4 (RdO S1) css st) (h0:0<st.length)
  (hT:fb P T=some (e,4,by_,z)) (hzc:z.cells=#[.int .i64 0,.int .i64 0,.string ⟨#[]⟩,.slice none 0 0]) (hU:P.underlying U=some (.int .i64)) (hfit:st.length+m<=4294967296) (hby:by_<=32768)
  (hk:∀ (g cap:Nat) (cur:Array Value) w',st.length+m<=cap->cap<=maxLen->KnU S1 cur (st++List.replicate m none)->Inv w0 X (A++[.blk g (.cells cur e)]) S w'->K (kvU g (st.length+m) cap) w') :
  Run P (bx .append #[T,U] ty cs [v,.int .i64 m]) w K:=by
 have hcy:=hR.hc
 obtain ⟨hl,ho⟩:=Inv.openRow h
 rcases ho with ⟨rfl,h1⟩|⟨g,cap,cur,rfl,hnc,hcm,hcs,ht,hI⟩
 ·omega
 rw [hcy] at hnc ht ⊢
 have hkn:KnU S1 cur st:=hR.knu (by rw [hcs]; exact Nat.mul_le_mul_right 4 hnc) (by rw [hcy]; exact ht)
 obtain ⟨hu,inf,hi',hz,hs,hb,hzs⟩:=gZ hT
 have hgw:w.heap[g]?=some (.cells cur e):=hI.its (.blk g (.cells cur e)) (by simp)
 have hw:IntKind.i64.wrap (m:Int)=m:=IntWalk.i64_in _ (by omega)
 have hneg:¬ ((m:Int)<0):=by omega
 have h48i:¬ (281474976710656<(m:Int) * (by_:Int)):=by
  have:m * by_<=(st.length+m) * by_:=Nat.mul_le_mul_right _ (by omega)
  have hbytes:(st.length+m) * by_<=140737488355328:=Nat.le_trans (Nat.mul_le_mul hfit hby) (by decide)
  rw [<- Int.natCast_mul]
  omega
 have hzl:(Builtin.zeroCells z.cells m).size=m * 4:=by rw [size_zeroCells,hzs]
 have hzt:(Builtin.zeroCells z.cells m).toList.length=m * 4:=hzl
 have hct:cur.toList.length=cur.size:=rfl
 by_cases hfits:st.length+m<=cap
 ·have hst:=run_storeCells_at P g (st.length * 4) e (Builtin.zeroCells z.cells m).toList 0 cur w hgw (by omega) (KF hzc m)
  by_cases hm:m=0
  ·subst hm
   have hw0:IntKind.i64.wrap 0=0:=IntWalk.i64_in _ (by omega)
   refine Run.of (v:=kvU g (st.length+0) cap) (w':=w) ?_ (hk g cap cur w hfits hcm (by simpa using hkn) hI)
   simp [bx,builtin,Builtin.append_,run_underlying hu,run_underlying hU,sizeOf,typeInfo,hi',hb,asInt,asIntOf,hw0,hnc,storeCells]
  ·have hns:¬ (m * 4=0):=by omega
   have hkg:KnU S1 (bk cur (st.length * 4) (Builtin.zeroCells z.cells m).toList) (st++List.replicate m none):=by
    refine hkn.grown hzc ?_ ?_
    ·rw [ic _ _ _ (by omega),hcs]; exact Nat.mul_le_mul_right 4 hfits
    ·show ((cur.toList.take (st.length * 4)++(Builtin.zeroCells z.cells m).toList++cur.toList.drop (st.length * 4+(Builtin.zeroCells z.cells m).toList.length))).take _=_
     rw [List.take_left' (by rw [List.length_append,List.length_take,hzt]; omega)]
   refine Run.of (v:=kvU g (st.length+m) cap) (w':=w.setRow g (bk cur (st.length * 4) (Builtin.zeroCells z.cells m).toList)) ?_ (hk g cap _ _ hfits hcm hkg ?_)
   ·simp [bx,builtin,Builtin.append_,run_underlying hu,run_underlying hU,sizeOf,typeInfo,zeroValue,hi',hz,hs,hb,asInt,asIntOf,hw,hneg,h48i,hns,hfits,iW,hst,bk]
   ·have e2:(A++[Item.blk g (.cells cur e)]).set A.length (.blk g (.cells (bk cur (st.length * 4) (Builtin.zeroCells z.cells m).toList) e))=A++[.blk g (.cells (bk cur (st.length * 4) (Builtin.zeroCells z.cells m).toList) e)]:=by simp
    have h3:=hI.setBlk (i:=A.length) (b:=g) (o:=.cells cur e) (by simp) (.cells (bk cur (st.length * 4) (Builtin.zeroCells z.cells m).toList) e) (BW hgw)
    rw [e2] at h3
    exact h3
 ·have hg:cap<st.length+m:=by omega
  obtain ⟨olds,hoe⟩:∃ olds,olds=cur.toList.take (st.length * 4):=⟨_,rfl⟩
  have hcz:cur.size=cap * 4:=hcs
  have hlo:olds.length=st.length * inf.size:=by rw [hoe,hs,List.length_take]; omega
  have holds:∀ j v,olds[j]?=some v->w.cell? ((⟨g,0,none⟩:Addr).add j)=some v:=by
   intro j v hj
   rw [iW,Nat.zero_add,cell_of_row w g j cur e (0,0) hgw]
   rw [hoe,List.getElem?_take] at hj
   split at hj
   ·simpa using hj
   ·cases hj
  have hbytes:(st.length+m) * by_<=140737488355328:=Nat.le_trans (Nat.mul_le_mul hfit hby) (by decide)
  have hgf:=growslice_fits hg hbytes
  have hns:¬ (m * 4=0):=by omega
  have h63':¬ (9223372036854775807<(st.length:Int)+(m:Int)):=by omega
  have h48':¬ (281474976710656<Builtin.nextslicecap (st.length+m) cap * by_):=by omega
  have hfo:=run_firstCells_some (P:=P) w.drew inf.size st.length ⟨g,0,none⟩ st.length cap olds hlo (by simpa using holds)
  rw [hs] at hfo
  have hge:=grownCap_ge w (st.length+m) cap e
  have hle:=grownCap_le_maxLen w (st.length+m) cap e (by simp only [maxLen]; omega)
  refine Run.of (v:=kvU w.heap.size (st.length+m) (grownCap w (st.length+m) cap e))
   (w':=w.drew.alloc (.cells (olds.toArray++Builtin.zeroCells z.cells m++Builtin.zeroCells z.cells (grownCap w (st.length+m) cap e - (st.length+m))) e)) ?_ (hk _ _ (olds.toArray++Builtin.zeroCells z.cells m++Builtin.zeroCells z.cells (grownCap w (st.length+m) cap e - (st.length+m))) _ hge hle ?_ ?_)
  ·simp [bx,builtin,Builtin.append_,run_underlying hu,run_underlying hU,sizeOf,typeInfo,zeroValue,hi',hz,hs,hb,asInt,asIntOf,hw,hfits,hneg,hns,h63',h48',h48i,Question.forced,hfo,newRow,grownCap]
  ·refine hkn.grown hzc ?_ ?_
   ·simp only [Array.size_append,List.size_toArray,hzl,hlo,hs]; omega
   ·rw [Array.toList_append,Array.toList_append,<- hoe]
    rw [List.take_left' (by rw [List.length_append,hzt,hlo,hs]; omega)]
  ·have h2:=h.draw.alloc (.cells (olds.toArray++Builtin.zeroCells z.cells m++Builtin.zeroCells z.cells (grownCap w (st.length+m) cap e - (st.length+m))) e)
   exact h2.sub (by rw [List.append_assoc]; exact (List.sublist_append_right _ _).append_left _)
end
end
section
open Go Go.RowKit
def tmC (w0:World) (X:List Nat) (A:List Item) (S:ae) (N m:Nat) (b st:aG) (jT gU fN gD z6:Value) (w':World):Nat->Prop
 | 0=>Inv w0 X A S w'
 | 1=>Inv w0 X (A++[aP jT ab 4 []]) S w'
 | 2=>∃ css,Rows 4 (RdO S) css b/\Inv w0 X (A++[aP gU ab 4 css]) S w'
 | 3=>fN=.int .i64 (m:Int)/\∃ css,Rows 4 (RdO S) css b/\Inv w0 X (A++[aP gU ab 4 css]) S w'
 | 4=>∃ g cap cur,gD=kvU g N cap/\N<=cap/\cap<=maxLen/\KnU S cur st/\Inv w0 X (A++[.blk g (.cells cur ab)]) S w'
 | _=>∃ g cap cur,z6=kvU g N cap/\N<=cap/\cap<=maxLen/\KnU S cur st/\Inv w0 X (A++[.blk g (.cells cur ab)]) S w'
theorem tmC.inv {w0 w':World} {X:List Nat} {A:List Item} {S:ae} {N m:Nat} {b st:aG} {jT gU fN gD z6:Value}:∀ {n:Nat},tmC w0 X A S N m b st jT gU fN gD z6 w' n->∃ R,Inv w0 X (A++R) S w'
 | 0,h=>⟨[],by rw [List.append_nil]; exact h⟩
 | 1,h=>⟨_,h⟩
 | 2,⟨_,_,h⟩=>⟨_,h⟩
 | 3,⟨_,_,_,h⟩=>⟨_,h⟩
 | 4,⟨_,_,_,_,_,_,_,h⟩=>⟨_,h⟩
 | _+5,⟨_,_,_,_,_,_,_,h⟩=>⟨_,h⟩
def unC (w0:World) (X:List Nat) (A:List Item) (S:ae) (g:Nat) (cur:Array Value) (st:aG) (t:T) (r:Bool) (mf lW:Value) (w':World):Nat->Prop
 | 0=>Inv w0 X (A++[.blk g (.cells cur ab)]) S w'
 | 1=>∃ S1 cs,mf=.agg cs.toArray/\Ext w0.heap.size X S S1/\RdT S1 cs t/\Inv w0 X (A++[.blk g (.cells cur ab)]) S1 w'
 | _=>lW=.bool r/\∃ S1 cur',Ext w0.heap.size X S S1/\KnU S1 cur' st/\Inv w0 X (A++[.blk g (.cells cur' ab)]) S1 w'
theorem unC.inv {w0 w':World} {X:List Nat} {A:List Item} {S:ae} {g:Nat} {cur:Array Value} {st:aG} {t:T} {r:Bool} {mf lW:Value}:∀ {n:Nat},unC w0 X A S g cur st t r mf lW w' n->∃ R S1,Inv w0 X (A++R) S1 w'
 | 0,h=>⟨_,_,h⟩
 | 1,⟨_,_,_,_,_,h⟩=>⟨_,_,h⟩
 | _+2,⟨_,_,_,_,_,h⟩=>⟨_,_,h⟩
abbrev zSt:Array Value:=#[.slice none 0 0,.slice none 0 0,.slice none 0 0]
abbrev zCh:Array Value:=#[.int .i64 0,.int .i64 0,.string ⟨#[]⟩,.slice none 0 0,.slice none 0 0,.slice none 0 0,.slice none 0 0]
def O8 (s:St6) (o:Option St6):Value->List Item->ae->Prop:=fun q I' S'=>I'=[]/\∃ cs:List Value,q=.tuple #[.agg cs.toArray,.bool o.isSome]/\RdS6 S' cs (o.getD s)
section
attribute [local irreducible] Run CondV ar aI
set_option maxHeartbeats 4000000 in
theorem FI {p:List C} (hp:∀ cl∈p,sV cl) {k:Nat} (hk:k<=1000) {c:Ch} (hc:iZ c) (hr:okRk k c) {s:St6} {o:Option St6} (h:TryL p s.chs c c.left o) (hn:s.chs.length<=1000)
  {S:ae} {u:Value} {ss cs:List Value} (hP:RdSl S 5 (RdC S) u p) (hs:RdS6 S ss s) (hcc:RdCh S cs c):Tri Tryz.prog Kj [u,.agg ss.toArray,.agg cs.toArray] [] S (O8 s o):=by
 intro w hI
 obtain ⟨gs,sb,sc,rfl,hsg,hsb,hsc⟩:=id hs
 obtain ⟨sca,scc,rfl,_⟩:=id hsc
 obtain ⟨hd,rv,lv,bv,rfl,hgo,hre,hle,hbi⟩:=id hcc
 obtain ⟨ra,rc,rfl,_⟩:=id hre
 obtain ⟨ba,bc,rfl,_⟩:=id hbi
 have hgo0:=hgo
 obtain ⟨kv,rfl,_⟩:=RdT.iff.1 hgo
 have hlb:=hbi.le
 have hll:=hle.le
 have hlr:=hre.le
 simp only [maxLen] at hlb hll hlr
 have hnb:=hr.nb
 have hnr:=hr.nr
 have hpos:=hr.pos
 refine zS.2 ?_
 dsimp only[zS,cM]
 refine be hI fun b4 w' hI=>?_
 refine be hI fun b5 w' hI=>?_
 refine aA hI fg fun b6 w' hI=>?_
 obtain ⟨B4,hB4⟩:∃ B:Item,B=.blk b4 (.cells #[gs,sb,.slice sca s.chs.length scc] bt):=⟨_,rfl⟩
 obtain ⟨B5,hB5⟩:∃ B:Item,B=.blk b5 (.cells #[.int .i64 c.goal.kind,.int .i64 c.goal.n,.string c.goal.name,kv,.slice ra c.rest.length rc,lv,.slice ba c.binds.length bc] bM):=⟨_,rfl⟩
 obtain ⟨B6,hB6⟩:∃ B:Item,B=.blk b6 (.cells zSt bt):=⟨_,rfl⟩
 have e4:=congrArg some hB4
 have e5:=congrArg some hB5
 have e6:=congrArg some hB6
 have hI:Inv w [] [B4,B5,B6] S w':=by rw [hB4,hB5,hB6]; exact hI
 refine ⟨fun i w'=>∃ (j:Nat) (S1:ae),j<=c.left.length/\i=.int .i64 j/\TryL p s.chs c (c.left.drop j) o/\Ext w.heap.size [] S S1/\Inv w [] [B4,B5,B6] S1 w',
  fun i _=>c.left.length - (intOf i).toNat,⟨0,S,Nat.zero_le _,rfl,h,Ext.refl _ _ _,hI⟩,?_⟩
 intro t8 _ _ _ _ t88 t87 t86 t85 t84 t83 t82 t81 t14 t80 t79 t78 t77 t76 t75 t74 t73 t72 t71 t70 t69 _ _ _ _ _ _ t13 t62 t61 t60 t59 t58 t57 t56 t55 t54 t53 t52 _ _ _ _ t48 t47 t46 t45 t44 t43 t42 t41 t40 t11 t39 t38 t37 t36 t35 t34 t33 _ _ _ _ _ _ _ _ _ _ _ _ _ _ _ _ _ _ w'
 rintro ⟨j,S1,hj,rfl,hT,hE,hI⟩
 refine ad hI 1 e5 cI hK rfl ?_
 refine aK hle cW ?_
 refine bD ?_
 refine aN (fun hji=>?_) (fun hji=>?_)
 ·have hj':j<c.left.length:=by omega
  rw [List.drop_eq_getElem_cons hj'] at hT
  obtain ⟨n,cl,r,st,hxi,hcl,hu,hcase⟩:=hT.inv
  have hnp:n<p.length:=(List.getElem?_eq_some_iff.1 hcl).1
  have hpc:p[n]=cl:=(List.getElem?_eq_some_iff.1 hcl).2
  have hm:=hp cl (List.mem_of_getElem? hcl)
  obtain ⟨m,hme⟩:∃ m:Nat,gO cl=m:=⟨(gO cl).toNat,by have:=(vA (cB (cl.head::cl.body) []) 0).1; rw [<- gO] at this; omega⟩
  have hfr:=hm.fr
  have hln:=hm.ln
  have hjo:=xS hc hm.cf
  have hgn:=o6 hc cl
  rw [hme,Int.toNat_natCast] at hjo hgn
  obtain ⟨hg,_⟩:=hu.good hgn hjo
  have hgl:=hg.len
  refine ad hI 1 e5 cI hK rfl ?_
  refine eX (u:=.int .i64 (n:Int)) hI (hle.mono hE.1 fun _ _ h=>h) cW aw hj' (fun cs hcs=>by rw [<- hxi]; exact hcs) ?_
  refine bP hI (hP.monoC hE.1) fT cD hnp (fun _ _=>RdC.length) fun ds hds=>?_
  rw [hpc] at hds
  have hds0:=hds
  obtain ⟨kv1,kb1,rfl,hh,hb⟩:=hds.cells
  obtain ⟨kba,kbc,rfl,_⟩:=id hb
  refine aA hI gX fun b9 w' hI=>?_
  have hI:Inv w [] [B4,B5,B6,.blk b9 (.cells #[.int .i64 0,.int .i64 0,.string ⟨#[]⟩,.slice none 0 0,.slice none 0 0] aQ)] S1 w':=hI
  refine aj hI 3 rfl cD rfl rfl (by simpa using hds.one) fun w' hI=>?_
  obtain ⟨B9,hB9⟩:∃ B:Item,B=.blk b9 (.cells #[.int .i64 cl.head.kind,.int .i64 cl.head.n,.string cl.head.name,kv1,.slice kba cl.body.length kbc] aQ):=⟨_,rfl⟩
  have e9:=congrArg some hB9
  have hI:Inv w [] [B4,B5,B6,B9] S1 w':=by rw [hB9]; exact hI
  refine ad hI 1 e5 jr al rfl ?_
  refine dL ah ?_
  have hbi1:=hbi.monoO hE.1
  refine ⟨fun D z6 gD fN kJ gU iI nC jT w_=>Fx D 0 [True,nC=.pointer (some ⟨b5,6,none⟩),iI=.slice ba c.binds.length bc,True,kJ=.agg #[.int .i64 cl.head.kind,.int .i64 cl.head.n,.string cl.head.name,kv1,.slice kba cl.body.length kbc],True,True,True]/\∃ n_:Nat,n_<=5/\D 0=decide (1<=n_)/\D 3=decide (2<=n_)/\D 5=decide (3<=n_)/\D 6=decide (4<=n_)/\D 7=decide (5<=n_)/\(tmC w [] [B4,B5,B6,B9] S1 (c.binds.length+m) m c.binds (xy c.binds cl) jT gU fN gD z6 w_ n_),⟨Fx.nil _ _,⟨0,Nat.zero_le _,rfl,rfl,rfl,rfl,rfl,hI.draw⟩⟩,⟨?_,?_,?_,?_,?_,?_,?_,?_,trivial⟩,?_⟩
  all_goals (intro D bw; intros; rename_i z6 gD fN kJ gU iI nC jT w_ hA_; have hF_:=hA_.1; obtain ⟨⟨bQ,bS,bU,bR,bY,bZ,bO,cG,_⟩,⟨n_,ln_,e1_,e2_,e3_,e4_,e5_,hS⟩⟩:=hA_)
  ·obtain rfl:n_=0:=xr e1_ bw
   refine dG hS bj fun v w_ hI=>?_
   have hS:tmC w [] [B4,B5,B6,B9] S1 (c.binds.length+m) m c.binds (xy c.binds cl) v gU fN gD z6 w_ 1:=hI
   exact ⟨hF_.set 0 (by first|assumption|trivial),⟨1,by decide,rfl,(by first|exact e2_|rfl),(by first|exact e3_|rfl),(by first|exact e4_|rfl),(by first|exact e5_|rfl),hS⟩⟩
  ·refine ao jr ?_
   exact ⟨hF_.set 1 rfl,⟨n_,ln_,e1_,e2_,e3_,e4_,e5_,hS⟩⟩
  ·obtain rfl:=bS ‹_›
   obtain ⟨R,hI⟩:=hS.inv; refine ax hI 1 al e5 rfl ?_
   exact ⟨hF_.set 2 rfl,⟨n_,ln_,e1_,e2_,e3_,e4_,e5_,hS⟩⟩
  ·have QA:=bQ ‹_›
   obtain rfl:=bU ‹_›
   obtain rfl:n_=1:=fZ e1_ ‹D 0=true› e2_ bw
   refine dI (css:=[]) hS 4 bj (by omega) rfl hbi1 (fun _ _=>RdO.length) (fun _ _=>RdO.one) (by simp; omega) (by omega) fun v w_ css hR hI=>?_
   have hS:tmC w [] [B4,B5,B6,B9] S1 (c.binds.length+m) m c.binds (xy c.binds cl) jT v fN gD z6 w_ 2:=⟨css,hR,hI⟩
   exact ⟨hF_.set 3 (by first|assumption|trivial),⟨2,by decide,(by first|exact e1_|rfl),rfl,(by first|exact e3_|rfl),(by first|exact e4_|rfl),(by first|exact e5_|rfl),hS⟩⟩
  ·obtain ⟨R,hI⟩:=hS.inv; refine ag hI 3 cD e9 rfl ?_
   exact ⟨hF_.set 4 rfl,⟨n_,ln_,e1_,e2_,e3_,e4_,e5_,hS⟩⟩
  ·obtain rfl:=bY ‹_›
   obtain rfl:n_=2:=fZ e2_ ‹D 3=true› e3_ bw
   obtain ⟨css,hR,hI⟩:=hS
   refine Run.callPure CP CW hI (AP hds0 hm.w hm.vs) fun w_ hI=>?_
   rw [hme]
   have hS:tmC w [] [B4,B5,B6,B9] S1 (c.binds.length+m) m c.binds (xy c.binds cl) jT gU (.int .i64 (m:Int)) gD z6 w_ 3:=⟨rfl,css,hR,hI⟩
   exact ⟨hF_.set 5 (by first|assumption|trivial),⟨3,by decide,(by first|exact e1_|rfl),(by first|exact e2_|rfl),rfl,(by first|exact e4_|rfl),(by first|exact e5_|rfl),hS⟩⟩
  ·have HG:=bR ‹_›
   have Kz:=bZ ‹_›
   obtain rfl:n_=3:=fZ e3_ ‹D 5=true› e4_ bw
   obtain ⟨rfl,css,hR,hI⟩:=hS
   refine H7 hI hR hpos bj rfl (U:=eN) (by kernel_rfl) (by omega) (by omega) fun g cap cur w_ q1 q2 hkn hI=>?_
   have hS:tmC w [] [B4,B5,B6,B9] S1 (c.binds.length+m) m c.binds (xy c.binds cl) jT gU (.int .i64 (m:Int)) (kvU g (c.binds.length+m) cap) z6 w_ 4:=⟨g,cap,cur,rfl,q1,q2,by rw [xy,hme,Int.toNat_natCast]; exact hkn,hI⟩
   exact ⟨hF_.set 6 (by first|assumption|trivial),⟨4,by decide,(by first|exact e1_|rfl),(by first|exact e2_|rfl),(by first|exact e3_|rfl),rfl,(by first|exact e5_|rfl),hS⟩⟩
  ·have JZ:=bO ‹_›
   obtain rfl:n_=4:=fZ e4_ ‹D 6=true› e5_ bw
   have hS:tmC w [] [B4,B5,B6,B9] S1 (c.binds.length+m) m c.binds (xy c.binds cl) jT gU fN gD gD w_ 5:=hS
   exact ⟨hF_.set 7 (by first|assumption|trivial),⟨5,by decide,(by first|exact e1_|rfl),(by first|exact e2_|rfl),(by first|exact e3_|rfl),(by first|exact e4_|rfl),rfl,hS⟩⟩
  obtain rfl:n_=5:=lU ln_ e5_ ‹D 7=true›
  clear e1_ e2_ e3_ e4_ e5_
  obtain ⟨g,cap,cur,rfl,q1,q2,hkn,hI⟩:=hS
  have hgo1:=hgo0.mono hE.1
  refine ⟨fun D pK lW nU mf kB iE jb iD lX w_=>Fx D 0 [lX=.pointer (some ⟨b5,0,none⟩),iD=.agg #[.int .i64 c.goal.kind,.int .i64 c.goal.n,.string c.goal.name,kv],jb=.pointer (some ⟨b9,0,none⟩),iE=.agg #[.int .i64 cl.head.kind,.int .i64 cl.head.n,.string cl.head.name,kv1],kB=.int .i64 (c.binds.length:Int),True,nU=kvU g (c.binds.length+m) cap,True,pK=.bool (!r)]/\∃ n_:Nat,n_<=2/\D 5=decide (1<=n_)/\D 7=decide (2<=n_)/\(unC w [] [B4,B5,B6,B9] S1 g cur st (bT c.binds.length cl.head) r mf lW w_ n_),⟨Fx.nil _ _,⟨0,Nat.zero_le _,rfl,rfl,hI.draw⟩⟩,⟨?_,?_,?_,?_,?_,?_,?_,?_,?_,trivial⟩,?_⟩
  all_goals (intro D bw; intros; rename_i pK lW nU mf kB iE jb iD lX w_ hA_; have hF_:=hA_.1; obtain ⟨⟨bQ,bS,bU,bR,bY,bZ,bO,cG,cS,_⟩,⟨n_,ln_,e1_,e2_,hS⟩⟩:=hA_)
  ·refine ao ju ?_
   exact ⟨hF_.set 0 rfl,⟨n_,ln_,e1_,e2_,hS⟩⟩
  ·obtain rfl:=bQ ‹_›
   obtain ⟨R,S2,hI⟩:=hS.inv; refine b0 hI 1 [.int .i64 c.goal.kind,.int .i64 c.goal.n,.string c.goal.name,kv] ac e5 rfl Mk ?_
   exact ⟨hF_.set 1 rfl,⟨n_,ln_,e1_,e2_,hS⟩⟩
  ·refine ao dA ?_
   exact ⟨hF_.set 2 rfl,⟨n_,ln_,e1_,e2_,hS⟩⟩
  ·obtain rfl:=bU ‹_›
   obtain ⟨R,S2,hI⟩:=hS.inv; refine b0 hI 3 [.int .i64 cl.head.kind,.int .i64 cl.head.n,.string cl.head.name,kv1] ac e9 rfl MA ?_
   exact ⟨hF_.set 3 rfl,⟨n_,ln_,e1_,e2_,hS⟩⟩
  ·exact ⟨hF_.set 4 rfl,⟨n_,ln_,e1_,e2_,hS⟩⟩
  ·obtain rfl:=bR ‹_›
   obtain rfl:=bY ‹_›
   obtain rfl:n_=0:=xr e1_ bw
   refine Run.call0E mx mn hS (pM (N:=26) (by omega) (c.binds.length:Int) (by omega) (by omega) _ S1 _ hh (jA (by omega) _ hm.cf.1.1) hm.cf.1.2) fun v' I' S' w_=>?_
   rintro ⟨eS,cs',L,rfl,rfl,hTr⟩ _ hI
   rw [eS] at hI
   obtain ⟨S2,hI,hE2,hins⟩:=hI.pubExt
   have hS:unC w [] [B4,B5,B6,B9] S1 g cur st (bT c.binds.length cl.head) r (.agg cs'.toArray) lW w_ 1:=⟨S2,cs',rfl,hE2,hTr.rd hins,hI⟩
   exact ⟨hF_.set 5 (by first|assumption|trivial),⟨1,by decide,rfl,(by first|exact e2_|rfl),hS⟩⟩
  ·exact ⟨hF_.set 6 rfl,⟨n_,ln_,e1_,e2_,hS⟩⟩
  ·obtain rfl:=bS ‹_›
   have Kz:=bZ ‹_›
   obtain rfl:=bO ‹_›
   obtain rfl:n_=1:=fZ e1_ ‹D 5=true› e2_ bw
   obtain ⟨S2,cs2,rfl,hE2,hrd2,hI⟩:=hS
   refine Run.callE eK eI hI (fF (kp:=cap) (by omega) hgn hjo hu S2 _ _ g cur (hgo1.mono hE2.1) hrd2 (hkn.mono hE2.1)) fun v' I' S' w_=>?_
   rintro ⟨eS,rfl,kcx,rfl,hkx⟩ _ hI
   rw [eS] at hI
   have hS:unC w [] [B4,B5,B6,B9] S1 g cur st (bT c.binds.length cl.head) r (.agg cs2.toArray) (.bool r) w_ 2:=⟨rfl,S2,kcx,hE2,hkx,hI⟩
   exact ⟨hF_.set 7 (by first|assumption|trivial),⟨2,by decide,(by first|exact e1_|rfl),rfl,hS⟩⟩
  ·have GO:=cG ‹_›
   have hn2:=lU ln_ e2_ ‹D 7=true›
   have hS2:=hS
   rw [hn2] at hS2
   obtain ⟨hx47,_⟩:=hS2
   subst hx47
   refine bW ?_
   exact ⟨hF_.set 8 rfl,⟨n_,ln_,e1_,e2_,hS⟩⟩
  obtain rfl:n_=2:=lU ln_ e2_ ‹D 7=true›
  have z8:D 8=true:=by assumption
  clear e1_ e2_
  obtain rfl:=cS z8
  obtain ⟨_,S2,kcx,hE2,hkx,hI⟩:=hS
  refine av (fun hbt=>?_) (fun hbt=>?_)
  ·have hrf:r=false:=by cases r; rfl; cases hbt
   rcases hcase with ⟨h1,_⟩|⟨_,hT⟩
   ·rw [hrf] at h1; cases h1
   refine bm (by omega) ?_
   exact ⟨⟨j+1,S2,hj',rfl,hT,hE.trans hE2,hI.pick [true,true,true]⟩,by simp [intOf]; omega⟩
  have hrt:r=true:=by cases r; cases hbt; rfl
  rcases hcase with ⟨_,ho⟩|⟨h1,_⟩
  case inr=>rw [hrt] at h1; cases h1
  subst ho
  obtain ⟨S3,hI,hE3,hgS⟩:=Inv.pub1 hI
  have hE03:=(hE.trans hE2).trans hE3
  have htb:RdSl S3 4 (RdO S3) (kvU g (c.binds.length+m) cap) st:=by
   have:=(hkx.rd (cap:=cap) hgS (by rw [hgl]; exact q1) q2).mono (Sle.refl _) fun _ _ h=>RdO.mono hE3.1 h
   rw [hgl] at this
   exact this
  refine ad hI 0 e4 cJ cH rfl ?_
  refine dL fB ?_
  obtain ⟨gl,hgle⟩:∃ gl,gl=cl.body.map (fun t=>(bT (c.binds.length:Int) t,(s.chs.length:Int)))++c.rest:=⟨_,rfl⟩
  have hcalls:∀ S4,Sle S3 S4->Tri Tryz.prog wy [.slice kba cl.body.length kbc,.int .i64 (c.binds.length:Int),.int .i64 (s.chs.length:Int),.slice ra c.rest.length rc] [] S4 (LY gl):=by
   intro S4 h34
   rw [hgle]
   exact qr (N:=26) (by omega) _ (by omega) (by omega) _ (hb.monoT ((hE2.trans hE3).1.trans h34)) (hre.monoG (hE03.1.trans h34)) (fun t ht=>⟨jA (by omega) _ (hm.cf.2 t ht).1,(hm.cf.2 t ht).2⟩) (by omega) (by omega)
  refine ⟨fun D NG xL xY xN xJ wH ta uy u4 tC pu kq w_=>Fx D 0 [kq=kvU g (c.binds.length+m) cap,pu=.pointer (some ⟨b4,2,none⟩),tC=.slice sca s.chs.length scc,u4=.pointer (some ⟨b9,4,none⟩),uy=.slice kba cl.body.length kbc,ta=.int .i64 (c.binds.length:Int),wH=.int .i64 (s.chs.length:Int),xJ=.pointer (some ⟨b5,4,none⟩),xN=.slice ra c.rest.length rc,True,True,True,True]/\∃ S4,Ext w.heap.size [] S3 S4/\(D 9=true->RdSl S4 5 (RdG S4) xY gl)/\(D 10=true->∃ v,xL=.agg #[v,kvU g (c.binds.length+m) cap,.slice sca s.chs.length scc]/\RdSl S4 5 (RdG S4) v gl)/\nwP w [] [B4,B5,B6,B9] bt zSt (fun S q=>∃ v,q=#[v,kvU g (c.binds.length+m) cap,.slice sca s.chs.length scc]/\RdSl S 5 (RdG S) v gl) (D 11) (D 12) NG S4 w_,⟨Fx.nil _ _,⟨S3,Ext.refl _ _ _,aT,aT,nwP.mk hI.draw _⟩⟩,⟨?_,?_,?_,?_,?_,?_,?_,?_,?_,?_,?_,?_,?_,trivial⟩,?_⟩
  all_goals (intro D bw; intros; rename_i NG xL xY xN xJ wH ta uy u4 tC pu kq w_ hA_; have hF_:=hA_.1; obtain ⟨⟨bQ,bS,bU,bR,bY,bZ,bO,cG,cS,cT,bL,co,cO,_⟩,⟨S4,hE4,f9,f10,hN⟩⟩:=hA_)
  ·exact ⟨hF_.set 0 rfl,⟨S4,hE4,f9,f10,hN⟩⟩
  ·refine ao cJ ?_
   exact ⟨hF_.set 1 rfl,⟨S4,hE4,f9,f10,hN⟩⟩
  ·obtain rfl:=bS ‹_›
   obtain ⟨R,hI⟩:=hN.inv; refine ax hI 0 cH e4 rfl ?_
   exact ⟨hF_.set 2 rfl,⟨S4,hE4,f9,f10,hN⟩⟩
  ·refine ao cC ?_
   exact ⟨hF_.set 3 rfl,⟨S4,hE4,f9,f10,hN⟩⟩
  ·obtain rfl:=bR ‹_›
   obtain ⟨R,hI⟩:=hN.inv; refine ax hI 3 al e9 rfl ?_
   exact ⟨hF_.set 4 rfl,⟨S4,hE4,f9,f10,hN⟩⟩
  ·exact ⟨hF_.set 5 rfl,⟨S4,hE4,f9,f10,hN⟩⟩
  ·exact ⟨hF_.set 6 rfl,⟨S4,hE4,f9,f10,hN⟩⟩
  ·refine ao nf ?_
   exact ⟨hF_.set 7 rfl,⟨S4,hE4,f9,f10,hN⟩⟩
  ·obtain rfl:=cG ‹_›
   obtain ⟨R,hI⟩:=hN.inv; refine ax hI 1 ez e5 rfl ?_
   exact ⟨hF_.set 8 rfl,⟨S4,hE4,f9,f10,hN⟩⟩
  ·obtain rfl:=bY ‹_›
   obtain rfl:=bZ ‹_›
   obtain rfl:=bO ‹_›
   obtain rfl:=cS ‹_›
   obtain ⟨R,hI,hback⟩:=hN.ex (fun S S' q hs hq=>by obtain ⟨v,e,h⟩:=hq; exact ⟨v,e,h.monoG hs⟩)
   refine Run.call0E sQ rK hI (hcalls S4 hE4.1) fun v I' S4 w_=>?_
   rintro ⟨rfl,hg⟩ hE5 hI
   rw [List.append_nil] at hI
   have hN:=hback S4 _ hE5.1 hI
   have hE4:=hE4.trans hE5
   have f9:=fun (_:aB D 9 9=true)=>hg
   have f10:aB D 9 10=true->∃ v,xL=.agg #[v,kvU g (c.binds.length+m) cap,.slice sca s.chs.length scc]/\RdSl S4 5 (RdG S4) v gl:=fun h=>(f10 h).imp fun v hv=>⟨hv.1,hv.2.monoG hE5.1⟩
   exact ⟨hF_.set 9 (by first|assumption|trivial),⟨S4,hE4,f9,f10,hN⟩⟩
  ·obtain rfl:=bQ ‹_›
   obtain rfl:=bU ‹_›
   have GP:=cT ‹_›
   have hg9:=f9 ‹D 9=true›
   obtain ⟨ga,gc,rfl,_⟩:=id hg9
   refine Kh ?_
   have f10:aB D 10 10=true->∃ v,Value.agg #[.slice ga gl.length gc,kvU g (c.binds.length+m) cap,.slice sca s.chs.length scc]=.agg #[v,kvU g (c.binds.length+m) cap,.slice sca s.chs.length scc]/\RdSl S4 5 (RdG S4) v gl:=fun _=>⟨_,rfl,hg9⟩
   exact ⟨hF_.set 10 (by first|assumption|trivial),⟨S4,hE4,f9,f10,hN⟩⟩
  ·refine nwP.alloc hN bw fg rfl fun v w_ hN=>?_
   exact ⟨hF_.set 11 (by first|assumption|trivial),⟨S4,hE4,f9,f10,hN⟩⟩
  ·have MO:=co ‹_›
   have xG:=bL ‹_›
   obtain ⟨v,rfl,hv⟩:=f10 ‹D 10=true›
   refine nwP.store hN ‹D 11=true› bw bC rfl rfl (by obtain ⟨ga,gc,rfl,_⟩:=id hv; simp [Value.oneCell']) ⟨v,rfl,hv⟩ fun w_ hN=>?_
   exact ⟨hF_.set 12 trivial,⟨S4,hE4,f9,f10,hN⟩⟩
  obtain ⟨rfl,rfl,rfl,rfl,rfl,rfl,rfl,rfl,rfl,GP,xG,MO,_,_⟩:=hF_.all
  have uL:D 11=true:=by assumption
  have IM:D 12=true:=by assumption
  clear hF_ bQ bS bU bR bY bZ bO cG cS cT bL co cO
  rw [uL,IM] at hN
  obtain ⟨b13,q13,rfl,⟨gv,rfl,hgv⟩,hI⟩:=hN.fin
  have hI:Inv w [] [B4,B5,B6,B9,.blk b13 (.cells #[gv,kvU g (c.binds.length+m) cap,.slice sca s.chs.length scc] bt)] S4 w_:=hI
  have hE04:=hE03.trans hE4
  refine ⟨fun w'=>∃ S5 cv,Ext w.heap.size [] S4 S5/\RdSl S5 7 (RdCh S5) cv (s.chs++(if c.left.drop (j+1)=[] then [] else [⟨c.goal,c.rest,c.left.drop (j+1),c.binds⟩]))/\Inv w [] [B4,B5,B6,B9,.blk b13 (.cells #[gv,kvU g (c.binds.length+m) cap,cv] bt)] S5 w',?_,?_⟩
  ·refine bm (by omega) ?_
   refine ad hI 1 e5 cI hK rfl ?_
   refine aK hle cW ?_
   refine bD ?_
   refine aN (fun hmo=>?_) (fun hmo=>?_)
   ·have hne:c.left.drop (j+1)≠[]:=fun e=>by have:=congrArg List.length e; rw [List.length_drop] at this; simp at this; omega
    rw [if_neg hne]
    obtain ⟨mc,hmc⟩:∃ mc:Ch,mc=⟨c.goal,c.rest,c.left.drop (j+1),c.binds⟩:=⟨_,rfl⟩
    rw [<- hmc]
    refine ⟨fun D xP Oo Om Lt JR JG K5 K2 ML LW Ld K0 K4 w_=>Fx D 0 [K4=.pointer (some ⟨b5,0,none⟩),K0=.agg #[.int .i64 c.goal.kind,.int .i64 c.goal.n,.string c.goal.name,kv],Ld=.pointer (some ⟨b5,4,none⟩),LW=.slice ra c.rest.length rc,ML=.pointer (some ⟨b5,5,none⟩),K2=lv,K5=.int .i64 (j:Int),JG=.int .i64 ((j+1:Nat):Int),RdSl S 1 gz JR (c.left.drop (j+1)),Lt=.pointer (some ⟨b5,6,none⟩),Om=.slice ba c.binds.length bc,True,True,True]/\(D 11=true->∃ la ln lc,Oo=.agg #[.int .i64 c.goal.kind,.int .i64 c.goal.n,.string c.goal.name,kv,.slice ra c.rest.length rc,.slice la ln lc,.slice ba c.binds.length bc]/\RdSl S 1 gz (.slice la ln lc) (c.left.drop (j+1)))/\nwP w [] [B4,B5,B6,B9,.blk b13 (.cells #[gv,kvU g (c.binds.length+m) cap,.slice sca s.chs.length scc] bt)] bM zCh (fun _ q=>∃ la ln lc,q=#[.int .i64 c.goal.kind,.int .i64 c.goal.n,.string c.goal.name,kv,.slice ra c.rest.length rc,.slice la ln lc,.slice ba c.binds.length bc]/\RdSl S 1 gz (.slice la ln lc) (c.left.drop (j+1))) (D 12) (D 13) xP S4 w_,⟨Fx.nil _ _,⟨aT,nwP.mk hI.draw _⟩⟩,⟨?_,?_,?_,?_,?_,?_,?_,?_,?_,?_,?_,?_,?_,?_,trivial⟩,?_⟩
    all_goals (intro D bw; intros; rename_i xP Oo Om Lt JR JG K5 K2 ML LW Ld K0 K4 w_ hA_; have hF_:=hA_.1; obtain ⟨⟨bQ,bS,bU,bR,bY,bZ,bO,cG,cS,cT,bL,co,cO,dJ,_⟩,⟨f11,hN⟩⟩:=hA_)
    ·refine ao ju ?_
     exact ⟨hF_.set 0 rfl,⟨f11,hN⟩⟩
    ·obtain rfl:=bQ ‹_›
     obtain ⟨R,hI⟩:=hN.inv; refine b0 hI 1 [.int .i64 c.goal.kind,.int .i64 c.goal.n,.string c.goal.name,kv] ac e5 rfl Mk ?_
     exact ⟨hF_.set 1 rfl,⟨f11,hN⟩⟩
    ·refine ao nf ?_
     exact ⟨hF_.set 2 rfl,⟨f11,hN⟩⟩
    ·obtain rfl:=bU ‹_›
     obtain ⟨R,hI⟩:=hN.inv; refine ax hI 1 ez e5 rfl ?_
     exact ⟨hF_.set 3 rfl,⟨f11,hN⟩⟩
    ·refine ao cI ?_
     exact ⟨hF_.set 4 rfl,⟨f11,hN⟩⟩
    ·obtain rfl:=bY ‹_›
     obtain ⟨R,hI⟩:=hN.inv; refine ax hI 1 hK e5 rfl ?_
     exact ⟨hF_.set 5 rfl,⟨f11,hN⟩⟩
    ·exact ⟨hF_.set 6 rfl,⟨f11,hN⟩⟩
    ·obtain rfl:=bO ‹_›
     refine bm (by omega) ?_; rw [show ((j:Int)+1)=((j+1:Nat):Int) by omega]
     exact ⟨hF_.set 7 rfl,⟨f11,hN⟩⟩
    ·obtain rfl:=bZ ‹_›
     obtain rfl:=cG ‹_›
     refine io cW hle (by omega) fun v' hv'=>?_
     exact ⟨hF_.set 8 (by first|assumption|trivial),⟨f11,hN⟩⟩
    ·refine ao jr ?_
     exact ⟨hF_.set 9 rfl,⟨f11,hN⟩⟩
    ·obtain rfl:=cT ‹_›
     obtain ⟨R,hI⟩:=hN.inv; refine ax hI 1 al e5 rfl ?_
     exact ⟨hF_.set 10 rfl,⟨f11,hN⟩⟩
    ·obtain rfl:=bS ‹_›
     obtain rfl:=bR ‹_›
     have Bo:=cS ‹_›
     obtain rfl:=bL ‹_›
     obtain ⟨la,lc,rfl,_⟩:=id Bo
     refine Cm ?_
     have f11:aB D 11 11=true->∃ la ln lc,Value.agg #[.int .i64 c.goal.kind,.int .i64 c.goal.n,.string c.goal.name,kv,.slice ra c.rest.length rc,.slice _ _ _,.slice ba c.binds.length bc]=.agg #[.int .i64 c.goal.kind,.int .i64 c.goal.n,.string c.goal.name,kv,.slice ra c.rest.length rc,.slice la ln lc,.slice ba c.binds.length bc]/\RdSl S 1 gz (.slice la ln lc) (c.left.drop (j+1)):=fun _=>⟨_,_,_,rfl,Bo⟩
     exact ⟨hF_.set 11 (by first|assumption|trivial),⟨f11,hN⟩⟩
    ·refine nwP.alloc hN bw i7 rfl fun v w_ hN=>?_
     exact ⟨hF_.set 12 (by first|assumption|trivial),⟨f11,hN⟩⟩
    ·have QB:=cO ‹_›
     have MO:=co ‹_›
     obtain ⟨la,ln,lc,rfl,hv⟩:=f11 ‹D 11=true›
     refine nwP.store hN ‹D 12=true› bw cK rfl rfl (RdCh.one (S:=S) (c:=⟨c.goal,c.rest,c.left.drop (j+1),c.binds⟩) ⟨_,_,_,_,rfl,hgo0,hre,hv,hbi⟩) ⟨la,ln,lc,rfl,hv⟩ fun w_ hN=>?_
     exact ⟨hF_.set 13 trivial,⟨f11,hN⟩⟩
    obtain ⟨rfl,rfl,rfl,rfl,rfl,rfl,rfl,rfl,Bo,rfl,rfl,MO,QB,_,_⟩:=hF_.all
    have IM:D 12=true:=by assumption
    have QN:D 13=true:=by assumption
    clear hF_ bQ bS bU bR bY bZ bO cG cS cT bL co cO dJ
    rw [IM,QN] at hN
    obtain ⟨b14,q14,rfl,⟨la,ln,lc,rfl,hlv⟩,hI⟩:=hN.fin
    obtain ⟨B14,hB14⟩:∃ B:Item,B=.blk b14 (.cells #[.int .i64 c.goal.kind,.int .i64 c.goal.n,.string c.goal.name,kv,.slice ra c.rest.length rc,.slice la ln lc,.slice ba c.binds.length bc] bM):=⟨_,rfl⟩
    have e14:=congrArg some hB14
    have hI:Inv w [] ([B4,B5,B6,B9,B14]++[.blk b13 (.cells #[gv,kvU g (c.binds.length+m) cap,.slice sca s.chs.length scc] bt)]) S4 w_:=by
     rw [hB14]
     exact hI.perm (((List.Perm.swap _ _ _).cons _ |>.cons _ |>.cons _ |>.cons _))
    have hmr:RdCh S4 [.int .i64 c.goal.kind,.int .i64 c.goal.n,.string c.goal.name,kv,.slice ra c.rest.length rc,.slice la ln lc,.slice ba c.binds.length bc] mc:=by
     rw [hmc]
     exact ⟨_,_,_,_,rfl,hgo0.mono hE04.1,hre.monoG hE04.1,hlv.mono hE04.1 fun _ _ h=>h,hbi.monoO hE04.1⟩
    have hsc4:=hsc.monoCh hE04.1
    refine ⟨fun D EE Io GQ Jf K1 Ox Oz MT w_=>Fx D 0 [True,Oz=.pointer (some ⟨b4,2,none⟩),Ox=.slice sca s.chs.length scc,True,Jf=.agg #[.int .i64 c.goal.kind,.int .i64 c.goal.n,.string c.goal.name,kv,.slice ra c.rest.length rc,.slice la ln lc,.slice ba c.binds.length bc],True,True,EE=.pointer (some ⟨b13,2,none⟩),True]/\∃ n_:Nat,n_<=3/\D 0=decide (1<=n_)/\D 3=decide (2<=n_)/\D 6=decide (3<=n_)/\(apP w [] (fun cv=>[B4,B5,B6,B9,B14]++[.blk b13 (.cells #[gv,kvU g (c.binds.length+m) cap,cv] bt)]) (.slice sca s.chs.length scc) bM 7 RdCh s.chs mc S4 (D 5) (D 8) MT K1 GQ Io w_ n_),⟨Fx.nil _ _,⟨0,Nat.zero_le _,rfl,rfl,rfl,apP.mk hI.draw _ _ _ _⟩⟩,⟨?_,?_,?_,?_,?_,?_,?_,?_,?_,trivial⟩,?_⟩
    all_goals (intro D bw; intros; rename_i EE Io GQ Jf K1 Ox Oz MT w_ hA_; have hF_:=hA_.1; obtain ⟨⟨bQ,bS,bU,bR,bY,bZ,bO,cG,cS,_⟩,⟨n_,ln_,e1_,e2_,e3_,hS⟩⟩:=hA_)
    ·obtain rfl:n_=0:=xr e1_ bw
     refine NZ hS dE fun v w_ hS=>?_
     exact ⟨hF_.set 0 (by first|assumption|trivial),⟨1,by decide,rfl,(by first|exact e2_|rfl),(by first|exact e3_|rfl),hS⟩⟩
    ·refine ao cJ ?_
     exact ⟨hF_.set 1 rfl,⟨n_,ln_,e1_,e2_,e3_,hS⟩⟩
    ·obtain rfl:=bS ‹_›
     obtain ⟨S5,cv,R,hE5,hI⟩:=hS.inv; refine ax hI 0 cH e4 rfl ?_
     exact ⟨hF_.set 2 rfl,⟨n_,ln_,e1_,e2_,e3_,hS⟩⟩
    ·have QA:=bQ ‹_›
     obtain rfl:=bU ‹_›
     obtain rfl:n_=1:=fZ e1_ ‹D 0=true› e2_ bw
     refine MU chM hS dE (by omega) hsc4 chL chO (by omega) (by omega) fun v w_ hS=>?_
     exact ⟨hF_.set 3 (by first|assumption|trivial),⟨2,by decide,(by first|exact e1_|rfl),rfl,(by first|exact e3_|rfl),hS⟩⟩
    ·obtain ⟨S5,cv,R,hE5,hI⟩:=hS.inv; refine ag hI 4 cK e14 rfl ?_
     exact ⟨hF_.set 4 rfl,⟨n_,ln_,e1_,e2_,e3_,hS⟩⟩
    ·obtain rfl:=bY ‹_›
     refine Nj chM hS dE (by omega) (by omega) rfl hmr chL fun v w_ hS=>?_
     exact ⟨hF_.set 5 (by first|assumption|trivial),⟨n_,ln_,e1_,e2_,e3_,hS⟩⟩
    ·have HG:=bR ‹_›
     have Kz:=bZ ‹_›
     obtain rfl:n_=2:=fZ e2_ ‹D 3=true› e3_ bw
     refine N9 chM hS ‹D 5=true› dE (by omega) chL chO (by omega) (by omega) fun v w_ hS=>?_
     exact ⟨hF_.set 6 (by first|assumption|trivial),⟨3,by decide,(by first|exact e1_|rfl),(by first|exact e2_|rfl),rfl,hS⟩⟩
    ·refine ao cJ ?_
     exact ⟨hF_.set 7 rfl,⟨n_,ln_,e1_,e2_,e3_,hS⟩⟩
    ·obtain rfl:=cG ‹_›
     have JZ:=bO ‹_›
     have hn3:=lU ln_ e3_ ‹D 6=true›
     have hS3:=hS
     rw [hn3] at hS3
     rw [bw] at hS3
     refine ND (C:=fun cv=>#[gv,kvU g (c.binds.length+m) cap,cv]) (fun _=>rfl) hS3 cH (fun _ _=>rfl) (fun _=>show 2<3 by decide) fun w_ hS4=>?_
     have hS:apP w [] (fun cv=>[B4,B5,B6,B9,B14]++[.blk b13 (.cells #[gv,kvU g (c.binds.length+m) cap,cv] bt)]) (.slice sca s.chs.length scc) bM 7 RdCh s.chs mc S4 (aB D 8 5) (aB D 8 8) MT K1 GQ Io w_ n_:=by rw [hn3]; exact hS4
     exact ⟨hF_.set 8 trivial,⟨n_,ln_,e1_,e2_,e3_,hS⟩⟩
    obtain rfl:n_=3:=lU ln_ e3_ ‹D 6=true›
    have z8:D 8=true:=by assumption
    clear e1_ e2_ e3_
    rw [z8] at hS
    obtain ⟨S5,cv,hE5,hcv,hI⟩:=hS.fin
    exact ⟨S5,cv,hE5,hcv,hI.pick [true,true,true,true,false,true]⟩
   ·have hnil:c.left.drop (j+1)=[]:=List.eq_nil_of_length_eq_zero (by rw [List.length_drop]; omega)
    rw [if_pos hnil,List.append_nil]
    exact ⟨S4,_,Ext.refl _ _ _,hsc.monoCh hE04.1,hI⟩
  intro _ _ _ _ _ _ _ _ _ _ _ _ _ _ _ _ _ _ _ _ _ _ _ _ _ _ _ w'
  rintro ⟨S5,cv,hE5,hcv,hI⟩
  refine ag hI 4 bC rfl rfl ?_
  have hones:∀ x∈([gv,kvU g (c.binds.length+m) cap,cv]:List Value),x.oneCell'=true:=by
   intro x hx
   simp only [List.mem_cons,List.not_mem_nil,or_false] at hx
   rcases hx with rfl|rfl|rfl
   ·exact hgv.sl
   ·rfl
   ·exact hcv.sl
  refine aj (cs:=#[gv,kvU g (c.binds.length+m) cap,cv]) hI 2 e6 bC rfl rfl hones fun w' hI=>?_
  refine aS hI 2 bC rfl rfl ?_
  refine ⟨_,[],S5,rfl,hI.nil,hE04.trans hE5,rfl,_,rfl,gv,_,cv,rfl,?_,htb.monoO (hE4.trans hE5).1,hcv⟩
  simp only [Option.getD_some,jZ]
  rw [hgle] at hgv
  exact hgv.monoG hE5.1
 ·have:j=c.left.length:=by omega
  subst this
  rw [List.drop_length] at hT
  cases hT
  refine ag hI 0 bC e4 rfl ?_
  refine aj (cs:=#[gs,sb,.slice sca s.chs.length scc]) hI 2 e6 bC rfl rfl (by simpa using hs.one) fun w' hI=>?_
  refine aS hI 2 bC rfl rfl ?_
  exact ⟨_,[],S1,rfl,hI.nil,hE,rfl,_,rfl,(hs.mono hE.1)⟩
end
end
end Go.Proofs.YtbocelianhcfmaaGreatDoor
