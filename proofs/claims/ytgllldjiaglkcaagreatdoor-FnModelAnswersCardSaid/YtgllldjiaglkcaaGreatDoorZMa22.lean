/- slices.Insert of one element into a row of the caller's own. -/
import Derived.Test.YtgllldjiaglkcaaGreatDoorZMa4
import Derived.Lib.Overlaps
import Derived.Test.YtgllldjiaglkcaaGreatDoorZMa3
import Derived.Test.YtgllldjiaglkcaaGreatDoorZMa5
import Derived.Test.YtgllldjiaglkcaaGreatDoorZMa7
namespace Go.Proofs.YtgllldjiaglkcaaGreatDoor
section
open Go Go.RowKit
section
variable {P:Program} {w w0:World} {X:List Nat} {L:List Item} {S:af} {K:Value->World->Prop}
attribute [local irreducible] Run CondV aw aN
theorem ab7 {T ty:TypeId} {cs:List Bool} {a:Option Addr} {n c:Nat} {Ek:TypeId × Nat} (hu:cL P T=some Ek) (hk:K (.int .i64 c) w):Run P (bD .cap #[T] ty cs [.slice a n c]) w K:=by
 obtain ⟨e,k⟩:=Ek
 obtain ⟨hT,_⟩:=ij hu
 refine Run.of ?_ hk
 simp [bD,builtin,Builtin.cap_,run_underlying hT,goInt]
theorem Uo {T ty e:TypeId} {k h g o len cap:Nat} (hT:cL P T=some (e,k)) (hh:h<=cap) (hk:K (.slice (some ⟨g,o,none⟩) h cap) w) :
  Run P (sOp (.slice T (.const (.slice (some ⟨g,o,none⟩) len cap)) none (some (.const (.int .i64 h))) none) ty) w K:=by
 refine xV hT hh ?_
 split
 ·exact hk
 ·simpa [fx] using hk
theorem j7 {T ty e:TypeId} {k l g o len cap:Nat} (hT:cL P T=some (e,k)) (hl:l<=len) (hc:l<cap) (hk:K (.slice (some ⟨g,o+l * k,none⟩) (len - l) (cap - l)) w) :
  Run P (sOp (.slice T (.const (.slice (some ⟨g,o,none⟩) len cap)) (some (.const (.int .i64 l))) none none) ty) w K:=by
 refine tN hT hl ?_
 rw [ah (by omega)]
 simpa [fx] using hk
theorem z4 (h:Inv w0 X L S w) {T ty e:TypeId} {k o dl dc sl sc:Nat} {cs:List Bool} {a:Addr} (j g n:Nat) (cur:Array Value) (E:TypeId) (news:List Value) (hT:cL P T=some (e,k)) (hi:L[j]?=some (.blk g (.cells cur E)))
  (hn:n=min sl dl) (hl:news.length=n * k) (hnews:∀ j u,news[j]?=some u->w.cell? (a.add j)=some u) (hfit:o+news.length<=cur.size) (h1:∀ u∈news,u.oneCell'=true)
  (hk:∀ w',Inv w0 X (L.set j (.blk g (.cells (bl cur o news) E))) S w'->K (goInt n) w') :
  Run P (bD .copy #[T,T] ty cs [.slice (some ⟨g,o,none⟩) dl dc,.slice (some a) sl sc]) w K:=by
 obtain ⟨hu,i,hi',hs⟩:=ij hT
 have hg:w.heap[g]?=some (.cells cur E):=h.its _ (b0 hi)
 have hld:=run_loadCells_list (P:=P) w a news hnews
 have hn:n=Nat.min sl dl:=hn
 rw [hl,hn] at hld
 have hst:=run_storeCells_at P g o E news 0 cur w hg (by simpa using hfit) h1
 rw [hn] at hk
 refine Run.of (v:=goInt (Nat.min sl dl)) (w':=w.setRow g (bl cur o news)) ?_ (hk _ (h.setBlk hi _ (Bp hg)))
 simp [bD,builtin,Builtin.copy_,run_underlying hu,Builtin.lenOf,Builtin.firstCells,sizeOf,typeInfo,hi',hs,hld,hst,bl]
theorem Va (h:Inv w0 X L S w) {T U ty e:TypeId} {k by_ j g i m cap:Nat} {cs:List Bool} {z:Value} {cur:Array Value} {E:TypeId} (hT:nq P T=some (e,k,by_,z)) (hU:P.underlying U=some (.int .i64)) (hk0:0<k)
  (hi:L[j]?=some (.blk g (.cells cur E))) (hsz:i * k<=cur.size) (hm:0<m) (hg:cap<i+m) (hfit:i+m<=4294967296) (hby:by_<=32768)
  (hk:∀ (nb nc:Nat) (c:Array Value) w',i+m<=nc->nc<=maxLen->c.size=nc * k->c.toList.take (i * k)=cur.toList.take (i * k)->Inv w0 X (L++[.blk nb (.cells c e)]) S w'->K (.slice (some ⟨nb,0,none⟩) (i+m) nc) w') :
  Run P (bD .append #[T,U] ty cs [.slice (some ⟨g,0,none⟩) i cap,.int .i64 m]) w K:=by
 obtain ⟨hu,inf,hi',hz,hs,hb,hzs⟩:=iW hT
 have hgw:w.heap[g]?=some (.cells cur E):=h.its _ (b0 hi)
 obtain ⟨olds,ho⟩:∃ olds,olds=cur.toList.take (i * k):=⟨_,rfl⟩
 have hlo:olds.length=i * inf.size:=by rw [ho,hs,dK,IV]; omega
 have holds:∀ j v,olds[j]?=some v->w.cell? ((⟨g,0,none⟩:Addr).add j)=some v:=by
  intro j v hj
  rw [fx,bR,cell_of_row w g j cur E (0,0) hgw]
  rw [ho,uj] at hj
  split at hj
  ·simpa using hj
  ·cases hj
 have hbytes:(i+m) * by_<=140737488355328:=gB (HA hfit hby) (by decide)
 have hgf:=growslice_fits hg hbytes
 have hn:¬ (i+m<=cap):=by omega
 have hw:IntKind.i64.wrap (m:Int)=m:=IntWalk.i64_in _ (by omega)
 have hneg:¬ ((m:Int)<0):=by omega
 have hns:¬ (m * k=0):=Nat.mul_ne_zero (by omega) (by omega)
 have h63':¬ (9223372036854775807<(i:Int)+(m:Int)):=by omega
 have h48i:¬ (281474976710656<(m:Int) * (by_:Int)):=by
  have:m * by_<=(i+m) * by_:=jr _ (by omega)
  rw [<- Int.natCast_mul]
  omega
 have h48':¬ (281474976710656<Builtin.nextslicecap (i+m) cap * by_):=by omega
 have hfo:=run_firstCells_some (P:=P) w.drew inf.size i ⟨g,0,none⟩ i cap olds hlo (by simpa using holds)
 rw [hs] at hfo
 refine Run.of (v:=.slice (some ⟨w.heap.size,0,none⟩) (i+m) (grownCap w (i+m) cap e))
  (w':=w.drew.alloc (.cells (olds.toArray++Builtin.zeroCells z.cells m++Builtin.zeroCells z.cells (grownCap w (i+m) cap e - (i+m))) e)) ?_ ?_
 ·simp [bD,builtin,Builtin.append_,run_underlying hu,run_underlying hU,sizeOf,typeInfo,zeroValue,hi',hz,hs,hb,asInt,asIntOf,hw,hn,hneg,hns,h63',h48',h48i,Question.forced,hfo,newRow,grownCap]
 ·have hge:=grownCap_ge w (i+m) cap e
  have hle:=grownCap_le_maxLen w (i+m) cap e (by simp only [maxLen]; omega)
  refine hk _ _ _ _ hge hle ?_ ?_ (h.draw.alloc _)
  ·simp only [Array.size_append,Rz,size_zeroCells,hzs,hlo,hs]
   rw [<- ut,<- ut]
   congr 1
   omega
  ·rw [<- ho]
   have:i * k=olds.length:=by rw [hlo,hs]
   rw [this]
   simp
theorem SL (h:Inv w0 X L S w) {f:FuncId} {fn:Func} {T U e ea eb:TypeId} {k i j a b oa ob la lb cpa cpb:Nat} {ca cb:Array Value} (hf:P.funcs[f]?=some fn) (hn:(fn.name == "runtime.NumGoroutine")=false) (hb:fn.body.isNone=true)
  (hx:(Extern.findNext fn).isNone=true) (hy:Extern.find fn=some (Extern.SlicesOverlaps.overlaps #[T,T] #[U])) (hT:cL P T=some (e,k)) (hi:L[i]?=some (.blk a (.cells ca ea))) (hj:L[j]?=some (.blk b (.cells cb eb)))
  (hne:a≠b) (hcb:cb.size≠0) (hk:K (.bool false) w):Run P (eO (.func (.func f) #[] #[]) [.slice (some ⟨a,oa,none⟩) la cpa,.slice (some ⟨b,ob,none⟩) lb cpb]) w K:=by
 obtain ⟨hu,inf,hi',hs⟩:=ij hT
 have hga:w.heap[a]?=some (.cells ca ea):=h.its _ (b0 hi)
 have hgb:w.heap[b]?=some (.cells cb eb):=h.its _ (b0 hj)
 have hov:=Lib.run_overlaps_apart (P:=P) w T U e hu k (fun w=>by simp [sizeOf,typeInfo,hi',hs]) ⟨a,oa,none⟩ ⟨b,ob,none⟩ la cpa lb cpb hne ea eb ca.size cb.size (by simp [World.shape?,hga]) (by simp [World.shape?,hgb]) hcb
  (by simp [World.frozen?,hga]) (by simp [World.frozen?,hga])
 have hx':Extern.findNext fn=none:=by simpa using hx
 refine Run.of (v:=.bool false) (w':=w) ?_ hk
 have hcf:=run_callFunc_extern hf hn hb hx' hy #[.slice (some ⟨a,oa,none⟩) la cpa,.slice (some ⟨b,ob,none⟩) lb cpb] w
 rw [hov] at hcf
 simp [eO,Deferred.ofValue,invoke,hcf,Result.andThen]
end
theorem s6 (c:Array Value) (o:Nat) (vs:List Value):(bl c o vs).toList=c.toList.take o++vs++c.toList.drop (o+vs.length):=rfl
theorem ac4 {c:Array Value} {p:Nat} {cs D:List Value} (h:p+cs.length+D.length<=c.size) :
  (bl (bl c p cs) (p+cs.length) D).toList.take (p+cs.length+D.length)=c.toList.take p++cs++D:=by
 have e:(bl c p cs).toList.take (p+cs.length)=c.toList.take p++cs:=by
  rw [s6,FE]
  simp; omega
 rw [s6 (bl c p cs),e,FE]
 simp; omega
theorem acu {c:Array Value} {p:Nat} {cs D:List Value} (h:p+cs.length+D.length<=c.size) :
  (bl (bl c (p+cs.length) D) p cs).toList.take (p+cs.length+D.length)=c.toList.take p++cs++D:=by
 have e1:(bl c (p+cs.length) D).toList.take p=c.toList.take p:=by
  rw [s6,eW,RT (by simp; omega),mJ,kD (by omega)]
 have e2:(bl c (p+cs.length) D).toList.drop (p+cs.length)=D++c.toList.drop (p+cs.length+D.length):=by
  rw [s6,eW,List.drop_left']
  simp; omega
 rw [s6 (bl c (p+cs.length) D),e1,e2,<- eW,FE]
 simp; omega
section
attribute [local irreducible] Run CondV aw aN
set_option maxHeartbeats 2000000 in
theorem LY {S:af} {v:Value} {css:List (List Value)} {cs:List Value} {ub i:Nat} (hk4:∀ c∈css,c.length=4) (h1:∀ c∈css,∀ u∈c,u.oneCell'=true) (hc4:cs.length=4) (hc1:∀ u∈cs,u.oneCell'=true)
  (hi:i<=css.length) (hn:css.length<=100000000) :
  Tri Tryz.prog E6 [v,.int .i64 i,.slice (some ⟨ub,0,none⟩) 1 1] [aJ v ac 4 css,.blk ub (.cells cs.toArray ac)] S fun r I' S'=>S'=S/\I'=[aJ r ac 4 (css.take i++cs::css.drop i)]:=by
 intro w hI
 obtain ⟨X,hX⟩:∃ X,X=bI [aJ v ac 4 css,.blk ub (.cells cs.toArray ac)]:=⟨_,rfl⟩
 rw [<- hX] at hI ⊢
 have hI:Inv w X ([.blk ub (.cells cs.toArray ac)]++[aJ v ac 4 css]) S w:=hI.perm (List.Perm.swap ..)
 have hcl:(css.drop i).flatten.length=(css.length - i) * 4:=by
  rw [ll (k:=4) (fun c hc=>hk4 c (xt hc)),vY]
 have hct:(css.take i).flatten.length=i * 4:=by
  rw [ll (k:=4) (fun c hc=>hk4 c (xU hc)),dK,kD hi]
 have hsp:css.flatten=(css.take i).flatten++(css.drop i).flatten:=by rw [<- wc,xg]
 have hd1:∀ u∈(css.drop i).flatten,u.oneCell'=true:=fun u hu=>by
  obtain ⟨c,hc,hu⟩:=Sz.1 hu
  exact h1 c (xt hc) u hu
 obtain ⟨hfl,ho⟩:=hI.openRow
 have hv:∃ a cap,v=.slice a css.length cap/\css.length<=cap:=by
  rcases ho with ⟨rfl,h0⟩|⟨g,cap,cur,rfl,hnc,_⟩
  ·exact ⟨none,0,by rw [h0],by omega⟩
  ·exact ⟨_,cap,rfl,hnc⟩
 obtain ⟨a,cap,rfl,hncap⟩:=hv
 refine pB.2 ?_
 dsimp only[pB,dV]
 refine tN ae hi ?_
 refine eP ae ?_
 refine bo ?_
 refine aI (fun hb=>absurd hb (by decide)) (fun _=>?_)
 refine eP ae ?_
 refine bo ?_
 refine aI (fun hin=>?_) (fun hin=>?_)
 ·have hin:i=css.length:=by omega
  refine dQ hI 1 (m:=1) (o:=0) cs bj (by omega) rfl (by omega) (fun j u hj=>?_) hc1 (by omega) (by omega) fun v' w' hI=>?_
  ·rw [hI.cellL (i:=0) rfl,bR]
   simpa using hj
  ·have e:css.take i++cs::css.drop i=css++[cs]:=by rw [hin,fk,dL]
   rw [e]
   rw [eG] at hI
   exact ⟨_,_,_,rfl,hI.pick [false,true],Ext.refl _ _ _,rfl,rfl⟩
 have hlt:i<css.length:=by omega
 rcases ho with ⟨_,h0⟩|⟨g,cap',cur,hveq,hnc,hcm,hcs,ht,hJ⟩
 ·omega
 simp only [Value.slice.injEq] at hveq
 obtain ⟨rfl,_,rfl⟩:=hveq
 replace hI:=hJ
 have hcapt:cur.toList.take (i * 4)=(css.take i).flatten:=by
  have:cur.toList.take (i * 4)=(cur.toList.take (css.length * 4)).take (i * 4):=by rw [mJ,kD (by omega)]
  rw [this,ht,hsp,FE hct]
 have hD:∀ j u,(css.drop i).flatten[j]?=some u->cur[i * 4+j]?=some u:=by
  intro j u hj
  have hjl:=(fG.1 hj).1
  have:css.flatten[i * 4+j]?=some u:=by rw [hsp,ir (by omega),hct,oR]; exact hj
  rw [<- ht,uj,ai (by omega)] at this
  simpa using this
 have hsz:(css.length - i) * 4+(i * 4)=css.length * 4:=by omega
 have hnd:=hI.nd
 have hne:ub≠g:=by
  intro e
  rw [e] at hnd
  simp [bI,Item.foot] at hnd
 have hfin:∀ (nb nc:Nat) (c:Array Value) (w':World) (hI:Inv w X ([.blk nb (.cells c ac)]:List Item) S w') (_:css.length+1<=nc) (_:nc<=maxLen) (_:c.size=nc * 4) (_:c.toList.take (i * 4+cs.length+(css.drop i).flatten.length)=(css.take i).flatten++cs++(css.drop i).flatten),
   ∃ v I' S',Ending.returned (.slice (some ⟨nb,0,none⟩) (css.length+1) nc)=.returned v/\Inv w X I' S' w'/\Ext w.heap.size X S S'/\S'=S/\I'=[aJ v ac 4 (css.take i++cs::css.drop i)]:=by
  intro nb nc c w' hI hnc hcm hcs htk
  have hI:=Inv.closeRow (A:=[]) (k:=4) (n:=css.length+1) hI hnc hcm hcs
  have e1:(css.length+1) * 4=i * 4+cs.length+(css.drop i).flatten.length:=by omega
  have e2:(css.take i++cs::css.drop i).length=css.length+1:=by simp; omega
  have e3:(css.take i++cs::css.drop i).flatten=(css.take i).flatten++cs++(css.drop i).flatten:=by simp
  refine ⟨_,_,_,rfl,hI,Ext.refl _ _ _,rfl,?_⟩
  rw [e1,htk,aJ,e2,e3]
  rfl
 simp only [maxLen] at hcm
 refine bq (by omega) ?_
 refine ab7 ae ?_
 refine dC ?_
 refine aI (fun hgr=>?_) (fun hgr=>?_)
 ·have hgr':cap<css.length+1:=by omega
  refine Uo ae (by omega) ?_
  refine bq (by omega) ?_
  refine mz (by omega) ?_
  have e:((css.length:Int)+1 - (i:Int))=((css.length+1 - i:Nat):Int):=by omega
  rw [show ((css.length:Int)+((1:Nat):Int) - (i:Int))=((css.length+1 - i:Nat):Int) by omega]
  refine Va hI bj (U:=cc) (by kernel_rfl) (by omega) (j:=1) rfl (by omega) (by omega) (by omega) (by omega) (by omega) fun nb nc c w' hnc hcm2 hcsz hctk hI=>?_
  have hI:Inv w X [.blk ub (.cells cs.toArray ac),.blk g (.cells cur ac),.blk nb (.cells c ac)] S w':=hI
  rw [show i+(css.length+1 - i)=css.length+1 by omega] at hnc ⊢
  refine j7 ae (by omega) (by omega) ?_
  rw [bR]
  refine z4 hI 2 nb 1 c ac cs ae rfl (by omega) (by omega) (fun j u hj=>?_) (by omega) hc1 fun w' hI=>?_
  ·rw [fx,hI.cellL (i:=0) rfl,bR]
   simpa using hj
  have hI:Inv w X [.blk ub (.cells cs.toArray ac),.blk g (.cells cur ac),.blk nb (.cells (bl c (i * 4) cs) ac)] S w':=hI
  have hsz2:(bl c (i * 4) cs).size=c.size:=eV _ _ _ (by omega)
  refine ⟨fun D Gu GP C9 DN C5 Ai rY rx Az w_=>Fx D 0 [Az=.slice (some ⟨nb,0,none⟩) (css.length+1) nc,rx=.int .i64 i,rY=.int .i64 (1:Nat),Ai=.int .i64 (i+1:Nat),C5=.slice (some ⟨nb,(i+1) * 4,none⟩) (css.length+1 - (i+1)) (nc - (i+1)),DN=.slice (some ⟨g,0,none⟩) css.length cap,C9=.int .i64 i,GP=.slice (some ⟨g,i * 4,none⟩) (css.length - i) (cap - i),Gu=goInt (css.length - i:Nat)]/\Inv w X [.blk ub (.cells cs.toArray ac),.blk g (.cells cur ac),.blk nb (.cells (cond (D 8) (bl (bl c (i * 4) cs) (i * 4+cs.length) (css.drop i).flatten) (bl c (i * 4) cs)) ac)] S w_,⟨Fx.nil _ _,hI.draw⟩,⟨?_,?_,?_,?_,?_,?_,?_,?_,?_,trivial⟩,?_⟩
  all_goals (intro D bP; intros; rename_i Gu GP C9 DN C5 Ai rY rx Az w_ hA_; have hF_:=hA_.1; obtain ⟨⟨cm,cj,cd,ci,bT,ct,bZ,cR,dq,_⟩,hI⟩:=hA_)
  ·exact ⟨hF_.set 0 rfl,hI⟩
  ·exact ⟨hF_.set 1 rfl,hI⟩
  ·exact ⟨hF_.set 2 rfl,hI⟩
  ·obtain rfl:=cj ‹_›
   obtain rfl:=cd ‹_›
   refine bq (by omega) ?_
   exact ⟨hF_.set 3 rfl,hI⟩
  ·obtain rfl:=cm ‹_›
   obtain rfl:=ci ‹_›
   refine j7 ae (by omega) (by omega) ?_
   rw [bR]
   exact ⟨hF_.set 4 rfl,hI⟩
  ·exact ⟨hF_.set 5 rfl,hI⟩
  ·exact ⟨hF_.set 6 rfl,hI⟩
  ·obtain rfl:=ct ‹_›
   obtain rfl:=bZ ‹_›
   refine j7 ae (by omega) (by omega) ?_
   rw [bR]
   exact ⟨hF_.set 7 rfl,hI⟩
  ·obtain rfl:=bT ‹_›
   obtain rfl:=cR ‹_›
   have hI:Inv w X [.blk ub (.cells cs.toArray ac),.blk g (.cells cur ac),.blk nb (.cells (bl c (i * 4) cs) ac)] S w_:=by rw [bP] at hI; exact hI
   refine z4 hI 2 nb (css.length - i) (bl c (i * 4) cs) ac (css.drop i).flatten ae rfl (by omega) (by omega) (fun j u hj=>by rw [fx,hI.cellL (i:=1) rfl]; exact hD j u hj) (by omega) hd1 fun w' hI=>?_
   rw [show (i+1) * 4=i * 4+cs.length by omega] at hI
   exact ⟨hF_.set 8 rfl,hI⟩
  obtain ⟨rfl,rfl,rfl,rfl,rfl,rfl,rfl,rfl,rfl,_⟩:=hF_.all
  have LK:D 8=true:=by assumption
  clear hF_ cm cj cd ci bT ct bZ cR dq
  rw [LK] at hI
  exact hfin nb nc _ _ (hI.pick [false,false,true]) hnc hcm2 (by rw [cond_true,eV _ _ _ (by omega),hsz2,hcsz]) (by rw [cond_true,ac4 (by omega),hctk,hcapt])
 ·have hgr':css.length+1<=cap:=by omega
  refine bq (by omega) ?_
  rw [show ((css.length:Int)+((1:Nat):Int))=((css.length+1:Nat):Int) by omega]
  refine Uo ae (by omega) ?_
  refine bq (by omega) ?_
  rw [show ((i:Int)+((1:Nat):Int))=((i+1:Nat):Int) by omega]
  refine j7 ae (by omega) (by omega) ?_
  rw [bR]
  refine SL hI Tryz.func298 (by kernel_rfl) (by kernel_rfl) (by kernel_rfl) (T:=cr) (U:=MT) (by kernel_rfl) ae (i:=0) (j:=1) rfl rfl hne (by omega) ?_
  refine bX ?_
  refine az (fun _=>?_) (fun hb=>by cases hb)
  have hsz2:(bl cur (i * 4+cs.length) (css.drop i).flatten).size=cur.size:=eV _ _ _ (by omega)
  have hI:Inv w X [.blk ub (.cells cs.toArray ac),.blk g (.cells cur ac)] S w:=hI
  refine ⟨fun D T2 T9 UO Ua Us Uw UK TS WK w_=>Fx D 0 [WK=.slice (some ⟨g,0,none⟩) (css.length+1) cap,TS=.int .i64 i,UK=.int .i64 (1:Nat),Uw=.int .i64 (i+1:Nat),Us=.slice (some ⟨g,(i+1) * 4,none⟩) (css.length+1 - (i+1)) (cap - (i+1)),Ua=.slice (some ⟨g,0,none⟩) (css.length+1) cap,UO=.int .i64 i,T9=.slice (some ⟨g,i * 4,none⟩) (css.length+1 - i) (cap - i),T2=goInt (css.length - i:Nat)]/\Inv w X [.blk ub (.cells cs.toArray ac),.blk g (.cells (cond (D 8) (bl cur (i * 4+cs.length) (css.drop i).flatten) cur) ac)] S w_,⟨Fx.nil _ _,hI.draw⟩,⟨?_,?_,?_,?_,?_,?_,?_,?_,?_,trivial⟩,?_⟩
  all_goals (intro D bP; intros; rename_i T2 T9 UO Ua Us Uw UK TS WK w_ hA_; have hF_:=hA_.1; obtain ⟨⟨cm,cj,cd,ci,bT,ct,bZ,cR,dq,_⟩,hI⟩:=hA_)
  ·exact ⟨hF_.set 0 rfl,hI⟩
  ·exact ⟨hF_.set 1 rfl,hI⟩
  ·exact ⟨hF_.set 2 rfl,hI⟩
  ·obtain rfl:=cj ‹_›
   obtain rfl:=cd ‹_›
   refine bq (by omega) ?_
   exact ⟨hF_.set 3 rfl,hI⟩
  ·obtain rfl:=cm ‹_›
   obtain rfl:=ci ‹_›
   refine j7 ae (by omega) (by omega) ?_
   rw [bR]
   exact ⟨hF_.set 4 rfl,hI⟩
  ·exact ⟨hF_.set 5 rfl,hI⟩
  ·exact ⟨hF_.set 6 rfl,hI⟩
  ·obtain rfl:=ct ‹_›
   obtain rfl:=bZ ‹_›
   refine j7 ae (by omega) (by omega) ?_
   rw [bR]
   exact ⟨hF_.set 7 rfl,hI⟩
  ·obtain rfl:=bT ‹_›
   obtain rfl:=cR ‹_›
   have hI:Inv w X [.blk ub (.cells cs.toArray ac),.blk g (.cells cur ac)] S w_:=by rw [bP] at hI; exact hI
   refine z4 hI 1 g (css.length - i) cur ac (css.drop i).flatten ae rfl (by omega) (by omega) (fun j u hj=>by rw [fx,hI.cellL (i:=1) rfl]; exact hD j u hj) (by omega) hd1 fun w' hI=>?_
   rw [show (i+1) * 4=i * 4+cs.length by omega] at hI
   exact ⟨hF_.set 8 rfl,hI⟩
  obtain ⟨rfl,rfl,rfl,rfl,rfl,rfl,rfl,rfl,rfl,_⟩:=hF_.all
  have LK:D 8=true:=by assumption
  clear hF_ cm cj cd ci bT ct bZ cR dq
  rw [LK] at hI
  have hI:Inv w X [.blk ub (.cells cs.toArray ac),.blk g (.cells (bl cur (i * 4+cs.length) (css.drop i).flatten) ac)] S w_:=hI
  refine j7 ae (by omega) (by omega) ?_
  rw [bR]
  refine z4 hI 1 g 1 (bl cur (i * 4+cs.length) (css.drop i).flatten) ac cs ae rfl (by omega) (by omega) (fun j u hj=>?_) (by omega) hc1 fun w' hI=>?_
  ·rw [fx,hI.cellL (i:=0) rfl,bR]
   simpa using hj
  exact hfin g cap _ _ (hI.pick [false,true]) hgr' (by simp only [maxLen]; omega) (by rw [eV _ _ _ (by omega),hsz2,hcs]) (by rw [acu (by omega),hcapt])
end
end
section
open Go Go.RowKit
def rkI (t:T):Int:=if t.kind=1 then 0 else if t.kind=2 then 1 else if t.kids.length=0 then 2 else 3
theorem Xt {t:T} (h:okO t):rkI t=rkS t - 1:=by
 rcases Fj h with ⟨hk,_,hks⟩|⟨hk,_⟩
 ·rw [pM hks]
  rcases hk with hk|hk
  ·rw [rkI,ai hk]; omega
  ·rw [rkI,ah (by omega),ai hk]; omega
 ·rw [rkI,ah (by omega),ah (by omega),rkS]
  by_cases h0:t.kids.length=0
  ·rw [ai h0,ah (by omega)]; omega
  ·rw [ah h0,ai ⟨hk,by omega⟩]; rfl
def orL:List Int->Int
 | []=>0
 | x::xs=>iF x (orL xs)
theorem R0 (a b c:Int):iF (iF a b) c=iF a (iF b c):=by
 unfold iF
 by_cases h:a=0
 ·subst h; simp
 ·simp [h]
theorem aau {t u:T} (ht:okO t) (hu:okO u):orL [cS (rkI t) (rkI u),cS t.n u.n,cS t.kids.length u.kids.length,cX t.name u.name,dy t.kids u.kids]=dH t u:=by
 have e:cS (rkI t) (rkI u)=cS (rkS t) (rkS u):=by
  rw [Xt ht,Xt hu]
  have h1:=dF (rkS t - 1) (rkS u - 1)
  have h2:=dF (rkS t) (rkS u)
  omega
 rw [e,zS,hdC]
 simp only [orL,Ne,R0]
section
variable {P:Program} {w w0:World} {X:List Nat} {L:List Item} {S:af} {K:Value->World->Prop}
attribute [local irreducible] Run CondV aw aN
theorem Yi (h:Inv w0 X L S w) {a b c d e:Int}
  (hk:∀ b5 w',Inv w0 X (L++[.blk b5 (.cells #[.int .i64 a,.int .i64 b,.int .i64 c,.int .i64 d,.int .i64 e] cc)]) S w'->K (.slice (some ⟨b5,0,none⟩) 5 5) w') :
  Run Tryz.prog (bE jw 5 [(0,.int .i64 a),(1,.int .i64 b),(2,.int .i64 c),(3,.int .i64 d),(4,.int .i64 e)]) w K:=by
 obtain ⟨hu,i,hi,hz,hs,hb,hzs⟩:=iW kO
 refine Run.of (v:=.slice (some ⟨w.heap.size,0,none⟩) 5 5) (w':={ w with heap:=w.heap.push (.cells #[.int .i64 a,.int .i64 b,.int .i64 c,.int .i64 d,.int .i64 e] cc) }) ?_ (hk _ _ (h.alloc _))
 have hbase:(Array.range 5).map ((Value.int .i64 0).cells[· % (Value.int .i64 0).cells.size]!)=#[.int .i64 0,.int .i64 0,.int .i64 0,.int .i64 0,.int .i64 0]:=by kernel_rfl
 have hf:Instr.fill (fun i=>some (i,1)) ((Array.range 5).map ((Value.int .i64 0).cells[· % (Value.int .i64 0).cells.size]!)) [(0,.int .i64 a),(1,.int .i64 b),(2,.int .i64 c),(3,.int .i64 d),(4,.int .i64 e)]=some #[.int .i64 a,.int .i64 b,.int .i64 c,.int .i64 d,.int .i64 e]:=by
  rw [hbase]; rfl
 simp [bE,Instr.buildSlice,run_underlying hu,sizeOf,typeInfo,hi,hs,zeroValue,hz,hf,newRow,newObj,Sem.run]
end
section
attribute [local irreducible] Run CondV aw aN
theorem r9 (a:Int) (S:af):Pure Tryz.prog JM [.int .i64 a] S (.bool false):=by
 intro w hI
 refine uI.2 ?_
 dsimp only[uI,aL]
 refine ei (done hI ?_)
 simp
theorem mi (a:ByteArray) (S:af):Pure Tryz.prog Ct [.string a] S (.bool false):=by
 intro w hI
 refine nV.2 ?_
 dsimp only[nV,aL]
 refine uD (done hI ?_)
 simp
theorem ju (a b:Int) (S:af):Pure Tryz.prog EQ [.int .i64 a,.int .i64 b] S (.int .i64 (cS a b)):=by
 intro w hI
 refine qb.2 ?_
 dsimp only[qb,aZ]
 refine Run.callPure uQ sP hI (r9 a S) fun w' hI=>?_
 refine Run.callPure uQ sP hI (r9 b S) fun w' hI=>?_
 refine az (fun hb=>by cases hb) (fun _=>?_)
 refine az (fun hb=>by cases hb) (fun _=>?_)
 refine bF ?_
 refine aI (fun h=>done hI (by rw [cS,ai h])) (fun h=>?_)
 refine dC ?_
 exact aI (fun h'=>done hI (by rw [cS,ah h,ai h'])) (fun h'=>done hI (by rw [cS,ah h,ah h']))
theorem sH (a b:ByteArray) (S:af):Pure Tryz.prog xC [.string a,.string b] S (.int .i64 (cX a b)):=by
 intro w hI
 refine lD.2 ?_
 dsimp only[lD,aZ]
 refine Run.callPure om oG hI (mi a S) fun w' hI=>?_
 refine Run.callPure om oG hI (mi b S) fun w' hI=>?_
 refine az (fun hb=>by cases hb) (fun _=>?_)
 refine az (fun hb=>by cases hb) (fun _=>?_)
 refine Xr ?_
 refine az (fun h=>done hI (by rw [cX,ai h])) (fun h=>?_)
 refine XK ?_
 rw [h,fL]
 refine az (fun h'=>done hI ?_) (fun h'=>done hI ?_)
 ·rw [js,ji] at h'
  rcases dN a b with h1|h1|h1
  ·rw [h1.1] at h; cases h
  ·rw [h1.2.2]
  ·exact absurd h1.1 h'
 ·rw [uk,bk] at h'
  rw [h',l3]
theorem Io {t:T} {S:af} {cs:List Value} (h:RdT S cs t) (_:okO t):Pure Tryz.prog Wy [.agg cs.toArray] S (.int .i64 (rkI t)):=by
 intro w hI
 obtain ⟨kv,rfl,_,_,_,hks⟩:=RdT.iff.1 h
 refine Ks.2 ?_
 dsimp only[Ks,aL]
 refine bt hI fun b1 w' hI=>?_
 refine ag hI 0 rfl aP aH rfl ?_
 refine bo ?_
 refine aI (fun h1=>done hI (by rw [rkI,ai (show t.kind=1 from h1)])) (fun h1=>?_)
 refine ag hI 0 rfl aP aH rfl ?_
 refine bo ?_
 refine aI (fun h2=>done hI (by rw [rkI,ah (show ¬ t.kind=1 from h1),ai (show t.kind=2 from h2)])) (fun h2=>?_)
 refine ag hI 0 rfl al aj rfl ?_
 refine aC hks ae ?_
 refine bo ?_
 exact aI (fun h3=>done hI (by rw [rkI,ah (show ¬ t.kind=1 from h1),ah (show ¬ t.kind=2 from h2),ai (by omega)])) (fun h3=>done hI (by rw [rkI,ah (show ¬ t.kind=1 from h1),ah (show ¬ t.kind=2 from h2),ah (by omega)]))
theorem WV {l:List Int} {S:af} {v:Value} (h:RdSl S 1 i5 v l):Pure Tryz.prog Sl [v] S (.int .i64 (orL l)):=by
 intro w hI
 have hlen:=h.le
 simp only [maxLen] at hlen
 refine Dy.2 ?_
 dsimp only[Dy,aL]
 refine aC h c5 ?_
 refine ⟨fun i w'=>∃ j:Nat,j<=l.length/\i=.int .i64 j/\orL (l.drop j)=orL l/\Inv w [] [] S w',fun i _=>l.length - (intOf i).toNat,⟨0,be _,rfl,rfl,hI⟩,?_⟩
 intro t8 _ _ _ _ _ _ _ _ _ _ w'
 rintro ⟨j,hj,rfl,hrel,hI⟩
 refine bF ?_
 refine aI (fun hji=>?_) (fun hji=>?_)
 ·have hj':j<l.length:=by omega
  rw [cZ hj',orL] at hrel
  refine io hI h c5 aH hj' (fun cs hcs=>hcs) ?_
  refine ei ?_
  refine az (fun hb=>done hI ?_) (fun hb=>?_)
  ·have hne:l[j]≠0:=by simpa using hb
   rw [<- hrel,nW hne]
  ·have he:l[j]=0:=by simpa using hb
   rw [he,kQ] at hrel
   refine bq (by omega) ?_
   exact ⟨⟨j+1,hj',rfl,hrel,hI⟩,by simp [intOf]; omega⟩
 ·refine done hI ?_
  rw [<- hrel,jQ (by omega)]; rfl
theorem yF {ts us:List T} {S:af} {v u:Value} (h:RdSl S 4 (RdT S) v ts) (h':RdSl S 4 (RdT S) u us)
  (hc:∀ t∈ts,∀ u∈us,∀ cs ds,RdT S cs t->RdT S ds u->Pure Tryz.prog iV [.agg cs.toArray,.agg ds.toArray] S (.int .i64 (dH t u))) :
  Pure Tryz.prog sC [v,u,fv iV []] S (.int .i64 (dy ts us)):=by
 intro w hI
 have hlen:=h.le
 simp only [maxLen] at hlen
 refine jT.2 ?_
 dsimp only[jT,dV]
 refine aC h ae ?_
 refine ⟨fun i w'=>∃ j:Nat,j<=ts.length/\j<=us.length/\i=.int .i64 j/\dy (ts.drop j) (us.drop j)=dy ts us/\Inv w [] [] S w',fun i _=>ts.length - (intOf i).toNat,⟨0,be _,be _,rfl,rfl,hI⟩,?_⟩
 intro t13 _ _ _ _ _ _ _ _ _ _ _ _ _ _ _ _ _ _ _ _ _ _ _ _ _ w'
 rintro ⟨j,hj,hju,rfl,hrel,hI⟩
 refine bF ?_
 refine aI (fun hji=>?_) (fun hji=>?_)
 ·have hj1:j<ts.length:=by omega
  refine cE hI h ae ad hj1 (fun _ _=>RdT.length) fun cs hcs=>?_
  have hlc:=hcs.length
  refine aV hI aY fun b8 w' hI=>?_
  refine aA hI 0 rfl ad (by simpa using hlc) rfl (by simpa using hcs.one) fun w' hI=>?_
  refine aC h' ae ?_
  refine mY ?_
  refine aI (fun hb=>done hI ?_) (fun hb=>?_)
  ·rw [<- hrel,jQ (show us.length<=j by omega),cZ hj1,dy]
  have hj2:j<us.length:=by omega
  refine cE hI h' ae ad hj2 (fun _ _=>RdT.length) fun ds hds=>?_
  have hld:=hds.length
  refine aV hI aY fun b9 w' hI=>?_
  refine aA hI 1 rfl ad (by simpa using hld) rfl (by simpa using hds.one) fun w' hI=>?_
  refine ar hI 0 ad rfl (by simpa using hlc) ?_
  refine ar hI 1 ad rfl (by simpa using hld) ?_
  refine Run.callVPure (cap:=[]) ra qF hI (hc _ (bA hj1) _ (bA hj2) cs ds hcs hds) fun w' hI=>?_
  rw [Ld ts us j hj1 hj2] at hrel
  refine ei ?_
  refine az (fun hb=>done hI ?_) (fun hb=>?_)
  ·have hne:dH ts[j] us[j]≠0:=by simpa using hb
   rw [<- hrel,nW hne]
  ·have he:dH ts[j] us[j]=0:=by simpa using hb
   rw [he,kQ] at hrel
   refine bq (by omega) ?_
   exact ⟨⟨j+1,hj1,hj2,rfl,hrel,hI.sub (MH _)⟩,by simp [intOf]; omega⟩
 ·refine aC h ae ?_
  refine aC h' ae ?_
  refine bF ?_
  rw [jQ (show ts.length<=j by omega)] at hrel
  refine aI (fun hb=>done hI ?_) (fun hb=>done hI ?_)
  ·rw [<- hrel,cZ (show j<us.length by omega),dy]
  ·rw [<- hrel,jQ (show us.length<=j by omega),dy]
theorem wd:∀ (t u:T) (S:af) (cs ds:List Value),RdT S cs t->RdT S ds u->okO t->okO u->Pure Tryz.prog iV [.agg cs.toArray,.agg ds.toArray] S (.int .i64 (dH t u)):=by
 refine T.ind fun k n s ks ih u S cs ds h h' ht hu=>?_
 intro w hI
 have hcs:=h
 have hds:=h'
 have hor:=aau ht hu
 obtain ⟨kv,rfl,_,_,_,hks⟩:=RdT.iff.1 h
 obtain ⟨kv',rfl,_,_,_,hks'⟩:=RdT.iff.1 h'
 obtain ⟨k',n',s',ks'⟩:=u
 simp only [T.name,T.kids,T.kind,T.n] at hks hks' ⊢
 have htk:BN ks:=by have h:=ht; rw [okO] at h; exact h.2
 have huk:BN ks':=by have h:=hu; rw [okO] at h; exact h.2
 have hkids:=yF hks hks' fun t ht u hu cs ds h1 h2=>ih t ht u S cs ds h1 h2 (sL htk t ht) (sL huk u hu)
 refine yz.2 ?_
 dsimp only[yz,aZ]
 refine bt hI fun b1 w' hI=>?_
 refine bt hI fun b2 w' hI=>?_
 have hI:Inv w [] [.blk b1 (.cells #[.int .i64 k,.int .i64 n,.string s,kv] ac),.blk b2 (.cells #[.int .i64 k',.int .i64 n',.string s',kv'] ac)] S w':=hI
 refine ⟨fun D x4 GE LH v9 iq qs jL r2 lE fF kU tA tR sv nj lS rK jY l5 sQ Ap wH vZ CL DB x9 x8 x7 x6 x5 w_=>Fx D 0 [x5=.agg #[.int .i64 k,.int .i64 n,.string s,kv],x6=.int .i64 (rkI (T.mk k n s ks)),x7=.agg #[.int .i64 k',.int .i64 n',.string s',kv'],x8=.int .i64 (rkI (T.mk k' n' s' ks')),x9=.int .i64 (cS (rkI (T.mk k n s ks)) (rkI (T.mk k' n' s' ks'))),DB=.pointer (some ⟨b1,1,none⟩),CL=.int .i64 n,vZ=.pointer (some ⟨b2,1,none⟩),wH=.int .i64 n',Ap=.int .i64 (cS n n'),sQ=.pointer (some ⟨b1,3,none⟩),l5=kv,jY=.int .i64 ks.length,rK=.pointer (some ⟨b2,3,none⟩),lS=kv',nj=.int .i64 ks'.length,sv=.int .i64 (cS ks.length ks'.length),tR=.pointer (some ⟨b1,2,none⟩),tA=.string s,kU=.pointer (some ⟨b2,2,none⟩),fF=.string s',lE=.int .i64 (cX s s'),r2=.pointer (some ⟨b1,3,none⟩),jL=kv,qs=.pointer (some ⟨b2,3,none⟩),iq=kv',v9=.int .i64 (dy ks ks'),True,GE=.int .i64 (orL [cS (rkI (T.mk k n s ks)) (rkI (T.mk k' n' s' ks')),cS n n',cS ks.length ks'.length,cX s s',dy ks ks']),x4=.int .i64 (orL [cS (rkI (T.mk k n s ks)) (rkI (T.mk k' n' s' ks')),cS n n',cS ks.length ks'.length,cX s s',dy ks ks'])]/\∃ SN,Sle S SN/\(D 27=true->RdSl SN 1 i5 LH [cS (rkI (T.mk k n s ks)) (rkI (T.mk k' n' s' ks')),cS n n',cS ks.length ks'.length,cX s s',dy ks ks'])/\Inv w [] [.blk b1 (.cells #[.int .i64 k,.int .i64 n,.string s,kv] ac),.blk b2 (.cells #[.int .i64 k',.int .i64 n',.string s',kv'] ac)] SN w_,⟨Fx.nil _ _,⟨S,Sle.refl _,ba,hI.draw⟩⟩,⟨?_,?_,?_,?_,?_,?_,?_,?_,?_,?_,?_,?_,?_,?_,?_,?_,?_,?_,?_,?_,?_,?_,?_,?_,?_,?_,?_,?_,?_,?_,trivial⟩,?_⟩
 all_goals (intro D bP; intros; rename_i x4 GE LH v9 iq qs jL r2 lE fF kU tA tR sv nj lS rK jY l5 sQ Ap wH vZ CL DB x9 x8 x7 x6 x5 w_ hA_; have hF_:=hA_.1; obtain ⟨⟨cm,cj,cd,ci,bT,ct,bZ,cR,dq,er,co,cG,dJ,fl,fS,gD,kF,nn,qL,jl,uE,tZ,ti,vx,HJ,Yf,X1,Wm,X3,ZN,_⟩,⟨SN,hN,e27,hI⟩⟩:=hA_)
 ·refine ar hI 0 ad rfl rfl ?_
  exact ⟨hF_.set 0 rfl,⟨SN,hN,e27,hI⟩⟩
 ·obtain rfl:=cm ‹_›
  refine Run.callPure KS KX hI (Io (hcs.mono hN) ht) fun w_ hI=>?_
  exact ⟨hF_.set 1 rfl,⟨SN,hN,e27,hI⟩⟩
 ·refine ar hI 1 ad rfl rfl ?_
  exact ⟨hF_.set 2 rfl,⟨SN,hN,e27,hI⟩⟩
 ·obtain rfl:=cd ‹_›
  refine Run.callPure KS KX hI (Io (hds.mono hN) hu) fun w_ hI=>?_
  exact ⟨hF_.set 3 rfl,⟨SN,hN,e27,hI⟩⟩
 ·obtain rfl:=cj ‹_›
  obtain rfl:=ci ‹_›
  refine Run.callPure j8 ku hI (ju _ _ SN) fun w_ hI=>?_
  exact ⟨hF_.set 4 rfl,⟨SN,hN,e27,hI⟩⟩
 ·refine aB bh ?_
  exact ⟨hF_.set 5 rfl,⟨SN,hN,e27,hI⟩⟩
 ·obtain rfl:=ct ‹_›
  refine aX hI 0 aH rfl rfl ?_
  exact ⟨hF_.set 6 rfl,⟨SN,hN,e27,hI⟩⟩
 ·refine aB bh ?_
  exact ⟨hF_.set 7 rfl,⟨SN,hN,e27,hI⟩⟩
 ·obtain rfl:=cR ‹_›
  refine aX hI 1 aH rfl rfl ?_
  exact ⟨hF_.set 8 rfl,⟨SN,hN,e27,hI⟩⟩
 ·obtain rfl:=bZ ‹_›
  obtain rfl:=dq ‹_›
  refine Run.callPure j8 ku hI (ju _ _ SN) fun w_ hI=>?_
  exact ⟨hF_.set 9 rfl,⟨SN,hN,e27,hI⟩⟩
 ·refine aB al ?_
  exact ⟨hF_.set 10 rfl,⟨SN,hN,e27,hI⟩⟩
 ·obtain rfl:=co ‹_›
  refine aX hI 0 aj rfl rfl ?_
  exact ⟨hF_.set 11 rfl,⟨SN,hN,e27,hI⟩⟩
 ·obtain rfl:=cG ‹_›
  refine aC hks ae ?_
  exact ⟨hF_.set 12 rfl,⟨SN,hN,e27,hI⟩⟩
 ·refine aB al ?_
  exact ⟨hF_.set 13 rfl,⟨SN,hN,e27,hI⟩⟩
 ·obtain rfl:=fl ‹_›
  refine aX hI 1 aj rfl rfl ?_
  exact ⟨hF_.set 14 rfl,⟨SN,hN,e27,hI⟩⟩
 ·obtain rfl:=fS ‹_›
  refine aC hks' ae ?_
  exact ⟨hF_.set 15 rfl,⟨SN,hN,e27,hI⟩⟩
 ·obtain rfl:=dJ ‹_›
  obtain rfl:=gD ‹_›
  refine Run.callPure j8 ku hI (ju _ _ SN) fun w_ hI=>?_
  exact ⟨hF_.set 16 rfl,⟨SN,hN,e27,hI⟩⟩
 ·refine aB bb ?_
  exact ⟨hF_.set 17 rfl,⟨SN,hN,e27,hI⟩⟩
 ·obtain rfl:=nn ‹_›
  refine aX hI 0 aQ rfl rfl ?_
  exact ⟨hF_.set 18 rfl,⟨SN,hN,e27,hI⟩⟩
 ·refine aB bb ?_
  exact ⟨hF_.set 19 rfl,⟨SN,hN,e27,hI⟩⟩
 ·obtain rfl:=jl ‹_›
  refine aX hI 1 aQ rfl rfl ?_
  exact ⟨hF_.set 20 rfl,⟨SN,hN,e27,hI⟩⟩
 ·obtain rfl:=qL ‹_›
  obtain rfl:=uE ‹_›
  refine Run.callPure vD vy hI (sH _ _ SN) fun w_ hI=>?_
  exact ⟨hF_.set 21 rfl,⟨SN,hN,e27,hI⟩⟩
 ·refine aB al ?_
  exact ⟨hF_.set 22 rfl,⟨SN,hN,e27,hI⟩⟩
 ·obtain rfl:=ti ‹_›
  refine aX hI 0 aj rfl rfl ?_
  exact ⟨hF_.set 23 rfl,⟨SN,hN,e27,hI⟩⟩
 ·refine aB al ?_
  exact ⟨hF_.set 24 rfl,⟨SN,hN,e27,hI⟩⟩
 ·obtain rfl:=HJ ‹_›
  refine aX hI 1 aj rfl rfl ?_
  exact ⟨hF_.set 25 rfl,⟨SN,hN,e27,hI⟩⟩
 ·obtain rfl:=vx ‹_›
  obtain rfl:=Yf ‹_›
  refine Run.callPure sm sA hI (hkids.less hN) fun w_ hI=>?_
  exact ⟨hF_.set 26 rfl,⟨SN,hN,e27,hI⟩⟩
 ·obtain rfl:=bT ‹_›
  obtain rfl:=er ‹_›
  obtain rfl:=kF ‹_›
  obtain rfl:=tZ ‹_›
  obtain rfl:=X1 ‹_›
  refine Yi hI fun b5 w_ hI=>?_
  obtain ⟨SN,hI,hE,hb⟩:=Inv.pub1 (A:=[.blk b1 (.cells #[.int .i64 k,.int .i64 n,.string s,kv] ac),.blk b2 (.cells #[.int .i64 k',.int .i64 n',.string s',kv'] ac)]) hI
  have hN:=hN.trans hE.1
  have e27:=fun (_:aF D 27 27=true)=>(⟨some ⟨b5,0,none⟩,5,rfl,by simp,by simp [maxLen],.inr ⟨b5,0,_,cc,(0,0),rfl,hb,fun i hi=>by match i,hi with|0,_|1,_|2,_|3,_|4,_=>rfl⟩⟩:RdSl SN 1 i5 (.slice (some ⟨b5,0,none⟩) 5 5) [cS (rkI (T.mk k n s ks)) (rkI (T.mk k' n' s' ks')),cS n n',cS ks.length ks'.length,cX s s',dy ks ks'])
  exact ⟨hF_.set 27 (by first|assumption|trivial),⟨SN,hN,e27,hI⟩⟩
 ·have ade:=Wm ‹_›
  refine Run.callPure PG Qy hI (WV (e27 ‹D 27=true›)) fun w_ hI=>?_
  exact ⟨hF_.set 28 rfl,⟨SN,hN,e27,hI⟩⟩
 ·obtain rfl:=X3 ‹_›
  exact ⟨hF_.set 29 rfl,⟨SN,hN,e27,hI⟩⟩
 obtain ⟨rfl,rfl,rfl,rfl,rfl,rfl,rfl,rfl,rfl,rfl,rfl,rfl,rfl,rfl,rfl,rfl,rfl,rfl,rfl,rfl,rfl,rfl,rfl,rfl,rfl,rfl,rfl,ade,rfl,rfl,_⟩:=hF_.all
 clear hF_ cm cj cd ci bT ct bZ cR dq er co cG dJ fl fS gD kF nn qL jl uE tZ ti vx HJ Yf X1 Wm X3 ZN
 rw [show orL [cS (rkI (T.mk k n s ks)) (rkI (T.mk k' n' s' ks')),cS n n',cS ks.length ks'.length,cX s s',dy ks ks']=dH (T.mk k n s ks) (T.mk k' n' s' ks') from hor]
 exact jz hI hN rfl
end
end
section
open Go Go.RowKit
section
variable {P:Program} {w:World} {K:Value->World->Prop}
attribute [local irreducible] Run
theorem aaV {T:TypeId} {cx cy:Bool} {a:Int} (hk:K (.int .u64 (a / 2)) w):Run P (cN .shr T cx cy (.int .u64 a) (.int .u64 1)) w K:=by
 refine Run.of ?_ hk
 have h1:Op.shift .shr .u64 a .u64 1=pure (.int .u64 (a / 2)):=by
  have e:min (1:Int).toNat IntKind.u64.bits=1:=by decide
  simp only [Op.shift,e]
  rw [ah (by decide),Int.fdiv_eq_ediv_of_nonneg _ (by decide)]
  rfl
 simp [cN,binOp,eqGuard,h1]
end
def FN (l:List T) (t:T) (i:Nat):Prop:=i<=l.length/\(∀ j (h:j<l.length),j<i->dH l[j] t<0)/\(∀ j (h:j<l.length),i<=j->¬ dH l[j] t<0)
theorem Lk {l:List T} (h:Sorted l):∀ (a b:Nat) (ha:a<l.length) (hb:b<l.length),a<b->dH l[a] l[b]<0:=by
 induction l with
 | nil=>intro a b ha; simp at ha
 | cons x xs ih=>
  intro a b ha hb hab
  rw [Sorted] at h
  match a,b with
  | 0,b+1=>
   simp only [mF,Kj]
   exact h.1 _ (bA _)
  | a+1,b+1=>
   simp only [Kj]
   exact ih h.2 a b (by simpa using ha) (by simpa using hb) (by omega)
  | _,0=>omega
theorem TV {l:List T} {t:T} {i:Nat} (h:FN l t i):fg l t=l.take i++fg (l.drop i) t:=by
 obtain ⟨h1,h2,_⟩:=h
 have:∀ k,k<=i->l.take k++fg (l.drop k) t=fg l t:=by
  intro k
  induction k with
  | zero=>intro _; rfl
  | succ k ih=>
   intro hk
   have hkl:k<l.length:=by omega
   rw [<- ih (by omega),GY l t k hkl (h2 k hkl (by omega)),fj hkl,eW]
   rfl
 exact (this i (aR _)).symm
theorem Y9 {l:List T} {t:T} {i:Nat} (h:FN l t i) (hn:∀ hi:i<l.length,eqT l[i] t=false):fg l t=l.take i++t::l.drop i:=by
 rw [TV h]
 by_cases hi:i<l.length
 ·rw [Cc l t i hi (h.2.2 i hi (aR _)),ah (by rw [hn hi]; decide)]
 ·rw [jQ (by omega),fg]
theorem XC {l:List T} {t:T} {i:Nat} (h:FN l t i) (hi:i<l.length) (he:eqT l[i] t=true):fg l t=l:=by
 rw [TV h,Cc l t i hi (h.2.2 i hi (aR _)),ai he,xg]
theorem WA {a b:T} (ha:okO a) (hb:okO b):decide (dH a b=0)=eqT a b:=by
 rw [mP,bk,jJ]
 exact ⟨Ny a b ha hb,fun h=>by rw [h]; exact KA b⟩
def xD (l:List T) (t:T) (i:Nat):Bool:=if h:i<l.length then eqT l[i] t else false
section
attribute [local irreducible] Run CondV aw aN
theorem xZ {l:List T} {t:T} {S:af} {v:Value} {cs:List Value} (h:RdSl S 4 (RdT S) v l) (hcs:RdT S cs t) (hl:∀ x∈l,okO x) (ht:okO t) (hs:Sorted l) (hn:l.length<=100000000) :
  ∃ i,FN l t i/\Pure Tryz.prog np [v,.agg cs.toArray,fv iV []] S (.tuple #[.int .i64 i,.bool (xD l t i)]):=by
 obtain ⟨i0,hi0⟩:∃ i,FN l t i:=by
  have:∀ l:List T,Sorted l->(∀ x∈l,okO x)->∃ i,FN l t i:=by
   intro l
   induction l with
   | nil=>intro _ _; exact ⟨0,aR _,fun j h=>by simp at h,fun j h=>by simp at h⟩
   | cons x xs ih=>
    intro hs hl
    rw [Sorted] at hs
    by_cases hc:dH x t<0
    ·obtain ⟨i,h1,h2,h3⟩:=ih hs.2 fun y hy=>hl y (aS _ hy)
     refine ⟨i+1,by simpa using h1,fun j hj hji=>?_,fun j hj hji=>?_⟩
     ·match j with
      | 0=>exact hc
      | j+1=>simpa using h2 j (by simpa using hj) (by omega)
     ·match j with
      | 0=>omega
      | j+1=>simpa using h3 j (by simpa using hj) (by omega)
    ·refine ⟨0,be _,fun j _ hji=>by omega,fun j hj _=>?_⟩
     match j with
     | 0=>exact hc
     | j+1=>
      intro hlt
      simp only [Kj] at hlt
      exact hc (Fr (hs.1 _ (bA _)) hlt)
  exact this l hs hl
 have huniq:∀ i,FN l t i->i=i0:=by
  intro i hi
  rcases Nat.lt_trichotomy i i0 with h1|h1|h1
  ·exact absurd (hi0.2.1 i (by have:=hi0.1; omega) h1) (hi.2.2 i (by have:=hi0.1; omega) (aR _))
  ·exact h1
  ·exact absurd (hi.2.1 i0 (by have:=hi.1; omega) h1) (hi0.2.2 i0 (by have:=hi.1; omega) (aR _))
 refine ⟨i0,hi0,fun w hI=>?_⟩
 have hlc:=hcs.length
 have hun:Tryz.prog.underlying cc=some (.int .i64):=by kernel_rfl
 refine gU.2 ?_
 dsimp only[gU,dV]
 refine bt hI fun b4 w' hI=>?_
 have hI:Inv w [] [.blk b4 (.cells cs.toArray ac)] S w':=hI
 refine aC h ae ?_
 refine ⟨fun jv iv w'=>∃ i j:Nat,i<=j/\j<=l.length/\jv=.int .i64 j/\iv=.int .i64 i/\(∀ k (h:k<l.length),k<i->dH l[k] t<0)/\(∀ k (h:k<l.length),j<=k->¬ dH l[k] t<0)/\Inv w [] [.blk b4 (.cells cs.toArray ac)] S w',
  fun jv iv _=>(intOf jv).toNat - (intOf iv).toNat,⟨0,l.length,be _,aR _,rfl,rfl,fun k _ hk=>by omega,fun k hk hk2=>by omega,hI⟩,?_⟩
 intro t10 _ t9 _ _ _ _ _ _ _ _ _ _ _ _ _ _ _ _ _ _ _ _ w'
 rintro ⟨i,j,hij,hjl,rfl,rfl,hlo,hhi,hI⟩
 refine bF ?_
 refine aI (fun hlt=>?_) (fun hlt=>?_)
 ·obtain ⟨m,hm⟩:∃ m:Nat,(((i:Int)+(j:Int)) / 2)=(m:Int):=⟨(i+j) / 2,by omega⟩
  have hm1:i<=m/\m<j:=by omega
  have hml:m<l.length:=by omega
  refine bq (by omega) ?_
  refine Uz (k:=.u64) (k':=.i64) (by kernel_rfl) (by kernel_rfl) ?_
  rw [IntWalk.u64_in _ (by omega)]
  refine aaV ?_
  rw [hm]
  refine Uz (k:=.i64) (k':=.u64) (by kernel_rfl) (by kernel_rfl) ?_
  rw [IntWalk.i64_in _ (by omega)]
  obtain ⟨b,o,cap,c,E,fz,rfl,hS,hR⟩:=h.at_ hml
  have hox:=hl _ (bA hml)
  refine ⟨fun D v9 iq qs jL r2 lE fF kU w_=>Fx D 0 [kU=fv iV [],fF=.slice (some ⟨b,o,none⟩) l.length cap,lE=.int .i64 m,r2=.pointer (some ⟨b,o+m * 4,none⟩),jL=.agg (aO c (o+m * 4) 4).toArray,qs=.agg cs.toArray,iq=.int .i64 (dH l[m] t),v9=.bool (decide (dH l[m] t<0))]/\Inv w [] [.blk b4 (.cells cs.toArray ac)] S w_,⟨Fx.nil _ _,hI.draw⟩,⟨?_,?_,?_,?_,?_,?_,?_,?_,trivial⟩,?_⟩
  all_goals (intro D bP; intros; rename_i v9 iq qs jL r2 lE fF kU w_ hA_; have hF_:=hA_.1; obtain ⟨⟨cm,cj,cd,ci,bT,ct,bZ,cR,_⟩,hI⟩:=hA_)
  ·exact ⟨hF_.set 0 rfl,hI⟩
  ·exact ⟨hF_.set 1 rfl,hI⟩
  ·exact ⟨hF_.set 2 rfl,hI⟩
  ·obtain rfl:=cj ‹_›
   obtain rfl:=cd ‹_›
   refine aD ae hml ?_
   exact ⟨hF_.set 3 rfl,hI⟩
  ·obtain rfl:=ci ‹_›
   refine bK ad hR.length (fun j v hj=>by rw [hI.cellS hS]; exact aK rfl j v hj) ?_
   exact ⟨hF_.set 4 rfl,hI⟩
  ·refine ar hI 0 ad rfl (by simpa using hlc) ?_
   exact ⟨hF_.set 5 rfl,hI⟩
  ·obtain rfl:=cm ‹_›
   obtain rfl:=bT ‹_›
   obtain rfl:=ct ‹_›
   refine Run.callVPure (cap:=[]) ra qF hI (wd _ _ S _ _ hR hcs hox ht) fun w_ hI=>?_
   exact ⟨hF_.set 6 rfl,hI⟩
  ·obtain rfl:=bZ ‹_›
   refine bF ?_
   exact ⟨hF_.set 7 rfl,hI⟩
  obtain ⟨rfl,rfl,rfl,rfl,rfl,rfl,rfl,rfl,_⟩:=hF_.all
  clear hF_ cm cj cd ci bT ct bZ cR
  refine aI (fun hc=>?_) (fun hc=>?_)
  ·refine bq (by omega) ?_
   refine ⟨⟨m+1,j,by omega,hjl,rfl,rfl,fun k hk hk2=>?_,hhi,hI⟩,by simp [intOf]; omega⟩
   by_cases e:k=m
   ·subst e; exact hc
   ·exact Fr (Lk hs k m hk hml (by omega)) hc
  ·refine ⟨⟨i,m,hm1.1,by omega,rfl,rfl,hlo,fun k hk hk2 hc2=>?_,hI⟩,by simp [intOf]; omega⟩
   by_cases e:k=m
   ·subst e; exact hc hc2
   ·exact hc (Fr (Lk hs m k hml hk (by omega)) hc2)
 ·have e:j=i:=by omega
  subst e
  have e:j=i0:=huniq j ⟨hjl,hlo,hhi⟩
  subst e
  clear huniq hi0 hlo hhi
  by_cases hi:j<l.length
  ·obtain ⟨b,o,cap,c,E,fz,rfl,hS,hR⟩:=h.at_ hi
   have hox:=hl _ (bA hi)
   have hfb:xD l t j=eqT l[j] t:=dif_pos hi
   rw [hfb]
   refine ⟨fun D x7 x6 rY rx Az Eg DK Em Dd x1 Fl CY oM CP zE yH w_=>Fx D 0 [yH=.int .i64 j,zE=.int .i64 j,CP=.int .i64 l.length,oM=.bool true,CY=.bool true,Fl=fv iV [],x1=.slice (some ⟨b,o,none⟩) l.length cap,Dd=.int .i64 j,Em=.pointer (some ⟨b,o+j * 4,none⟩),DK=.agg (aO c (o+j * 4) 4).toArray,Eg=.agg cs.toArray,Az=.int .i64 (dH l[j] t),rx=.bool (eqT l[j] t),rY=.bool (eqT l[j] t),x6=.int .i64 j,x7=.bool (eqT l[j] t)]/\Inv w [] [.blk b4 (.cells cs.toArray ac)] S w_,⟨Fx.nil _ _,hI.draw⟩,⟨?_,?_,?_,?_,?_,?_,?_,?_,?_,?_,?_,?_,?_,?_,?_,?_,trivial⟩,?_⟩
   all_goals (intro D bP; intros; rename_i x7 x6 rY rx Az Eg DK Em Dd x1 Fl CY oM CP zE yH w_ hA_; have hF_:=hA_.1; obtain ⟨⟨cm,cj,cd,ci,bT,ct,bZ,cR,dq,er,co,cG,dJ,fl,fS,gD,_⟩,hI⟩:=hA_)
   ·exact ⟨hF_.set 0 rfl,hI⟩
   ·exact ⟨hF_.set 1 rfl,hI⟩
   ·exact ⟨hF_.set 2 rfl,hI⟩
   ·obtain rfl:=cj ‹_›
    obtain rfl:=cd ‹_›
    refine bF ?_; rw [aM (show (j:Int)<(l.length:Int) by omega)]
    exact ⟨hF_.set 3 rfl,hI⟩
   ·obtain rfl:=ci ‹_›
    exact ⟨hF_.set 4 rfl,hI⟩
   ·obtain rfl:=bT ‹_›
    refine rpG ?_
    exact ⟨hF_.set 5 rfl,hI⟩
   ·obtain rfl:=bT ‹_›
    refine rpG ?_
    exact ⟨hF_.set 6 rfl,hI⟩
   ·obtain rfl:=bT ‹_›
    refine rpG ?_
    exact ⟨hF_.set 7 rfl,hI⟩
   ·obtain rfl:=bZ ‹_›
    obtain rfl:=cR ‹_›
    obtain rfl:=bT ‹_›
    refine rpG ?_
    refine aD ae hi ?_
    exact ⟨hF_.set 8 rfl,hI⟩
   ·obtain rfl:=dq ‹_›
    obtain rfl:=bT ‹_›
    refine rpG ?_
    refine bK ad hR.length (fun j v hj=>by rw [hI.cellS hS]; exact aK rfl j v hj) ?_
    exact ⟨hF_.set 9 rfl,hI⟩
   ·obtain rfl:=bT ‹_›
    refine rpG ?_
    refine ar hI 0 ad rfl (by simpa using hlc) ?_
    exact ⟨hF_.set 10 rfl,hI⟩
   ·obtain rfl:=ct ‹_›
    obtain rfl:=er ‹_›
    obtain rfl:=co ‹_›
    obtain rfl:=bT ‹_›
    refine rpG ?_
    refine Run.callVPure (cap:=[]) ra qF hI (wd _ _ S _ _ hR hcs hox ht) fun w_ hI=>?_
    exact ⟨hF_.set 11 rfl,hI⟩
   ·obtain rfl:=cG ‹_›
    obtain rfl:=bT ‹_›
    refine rpG ?_
    refine bo ?_
    rw [WA hox ht]
    exact ⟨hF_.set 12 rfl,hI⟩
   ·obtain rfl:=bT ‹_›
    obtain rfl:=dJ ‹_›
    refine rpG ?_
    exact ⟨hF_.set 13 rfl,hI⟩
   ·obtain rfl:=cm ‹_›
    exact ⟨hF_.set 14 rfl,hI⟩
   ·obtain rfl:=fl ‹_›
    exact ⟨hF_.set 15 rfl,hI⟩
   obtain ⟨rfl,rfl,rfl,rfl,rfl,rfl,rfl,rfl,rfl,rfl,rfl,rfl,rfl,rfl,rfl,rfl,_⟩:=hF_.all
   clear hF_ cm cj cd ci bT ct bZ cR dq er co cG dJ fl fS gD
   exact done hI rfl
  ·have hfb:xD l t j=false:=dif_neg hi
   rw [hfb]
   refine ⟨fun D x7 x6 rY rx Az Eg DK Em Dd x1 Fl CY oM CP zE yH w_=>Fx D 0 [yH=.int .i64 j,zE=.int .i64 j,CP=.int .i64 l.length,oM=.bool false,CY=.bool false,Fl=undef,x1=undef,Dd=undef,Em=undef,DK=undef,Eg=undef,Az=undef,rx=undef,rY=.bool false,x6=.int .i64 j,x7=.bool false]/\Inv w [] [.blk b4 (.cells cs.toArray ac)] S w_,⟨Fx.nil _ _,hI.draw⟩,⟨?_,?_,?_,?_,?_,?_,?_,?_,?_,?_,?_,?_,?_,?_,?_,?_,trivial⟩,?_⟩
   all_goals (intro D bP; intros; rename_i x7 x6 rY rx Az Eg DK Em Dd x1 Fl CY oM CP zE yH w_ hA_; have hF_:=hA_.1; obtain ⟨⟨cm,cj,cd,ci,bT,ct,bZ,cR,dq,er,co,cG,dJ,fl,fS,gD,_⟩,hI⟩:=hA_)
   ·exact ⟨hF_.set 0 rfl,hI⟩
   ·exact ⟨hF_.set 1 rfl,hI⟩
   ·exact ⟨hF_.set 2 rfl,hI⟩
   ·obtain rfl:=cj ‹_›
    obtain rfl:=cd ‹_›
    refine bF ?_; rw [aW (show ¬ (j:Int)<(l.length:Int) by omega)]
    exact ⟨hF_.set 3 rfl,hI⟩
   ·obtain rfl:=ci ‹_›
    exact ⟨hF_.set 4 rfl,hI⟩
   ·obtain rfl:=bT ‹_›
    refine rpG ?_
    exact ⟨hF_.set 5 rfl,hI⟩
   ·obtain rfl:=bT ‹_›
    refine rpG ?_
    exact ⟨hF_.set 6 rfl,hI⟩
   ·obtain rfl:=bT ‹_›
    refine rpG ?_
    exact ⟨hF_.set 7 rfl,hI⟩
   ·obtain rfl:=bZ ‹_›
    obtain rfl:=cR ‹_›
    obtain rfl:=bT ‹_›
    refine rpG ?_
    exact ⟨hF_.set 8 rfl,hI⟩
   ·obtain rfl:=dq ‹_›
    obtain rfl:=bT ‹_›
    refine rpG ?_
    exact ⟨hF_.set 9 rfl,hI⟩
   ·obtain rfl:=bT ‹_›
    refine rpG ?_
    exact ⟨hF_.set 10 rfl,hI⟩
   ·obtain rfl:=ct ‹_›
    obtain rfl:=er ‹_›
    obtain rfl:=co ‹_›
    obtain rfl:=bT ‹_›
    refine rpG ?_
    exact ⟨hF_.set 11 rfl,hI⟩
   ·obtain rfl:=cG ‹_›
    obtain rfl:=bT ‹_›
    refine rpG ?_
    exact ⟨hF_.set 12 rfl,hI⟩
   ·obtain rfl:=bT ‹_›
    obtain rfl:=dJ ‹_›
    refine rpG ?_
    exact ⟨hF_.set 13 rfl,hI⟩
   ·obtain rfl:=cm ‹_›
    exact ⟨hF_.set 14 rfl,hI⟩
   ·obtain rfl:=fl ‹_›
    exact ⟨hF_.set 15 rfl,hI⟩
   obtain ⟨rfl,rfl,rfl,rfl,rfl,rfl,rfl,rfl,rfl,rfl,rfl,rfl,rfl,rfl,rfl,rfl,_⟩:=hF_.all
   clear hF_ cm cj cd ci bT ct bZ cR dq er co cG dJ fl fS gD
   exact done hI rfl
end
end
section
open Go Go.RowKit
section
variable {P:Program} {w w0:World} {X:List Nat} {L:List Item} {S:af} {K:Value->World->Prop}
attribute [local irreducible] Run CondV aw aN
theorem VB (h:Inv w0 X L S w) {T kt et ty:TypeId} {b clock:Nat} {es:Array MapEntry} {n:Int} {z v:Value} (hT:P.underlying T=some (.map kt et)) (hkt:P.underlying kt=some (.int .i64))
  (hz:fZ P et=some z) (hS:S b=some (.map es clock))
  (hf:(∃ j,Instr.findNow (.int .i64) (.int .i64 n) es.toList 0=some (some (j,v))) ∨ (Instr.findNow (.int .i64) (.int .i64 n) es.toList 0=some none/\v=z))
  (hk:K v w):Run P (sOp (.lookup T (.const (.map (some b))) (.const (.int .i64 n)) false) ty) w K:=by
 have hb:w.heap[b]?=some (.map es clock):=(h.pub _ _ hS).1
 have hck:∀ e,(Instr.checkKey e 10000 kt (.int .i64 n)).run P w=.ok () w:=fun e=>by
  rw [show (10000:Nat)=9999+1 from rfl,Instr.checkKey]
  simp [run_underlying hkt]
 obtain ⟨inf,hi1,hi2⟩:∃ inf,P.info? et=some inf/\inf.zero=some z:=by
  unfold fZ at hz
  cases hinf:P.info? et with
  | none=>rw [hinf] at hz; simp at hz
  | some inf=>rw [hinf] at hz; exact ⟨inf,rfl,by simpa using hz⟩
 have hzv:(zeroValue et).run P w=.ok z w:=by simp [zeroValue,typeInfo,hi1,hi2]
 refine Run.of ?_ hk
 have hg:(getObj b).run P w=.ok (.map es clock) w:=by simp [getObj,Sem.run,hb]
 rcases hf with ⟨j,hf⟩|⟨hf,rfl⟩
 ·have hfk:=fo (P:=P) (w:=w) hkt hf
  simp [sOp,execOp,ev0,evE,Instr.lookup,run_underlying hT,hg,hck,hfk]
 ·have hfk:=fo (P:=P) (w:=w) hkt hf
  simp [sOp,execOp,ev0,evE,Instr.lookup,run_underlying hT,hg,hck,hfk,hzv]
theorem XZ {T kt et:TypeId} {cx cy:Bool} {b:Nat} (hT:P.underlying T=some (.map kt et)) (hk:K (.bool false) w):Run P (cN .eql T cx cy (.map (some b)) (.map none)) w K:=by
 refine Run.of (v:=.bool false) (w':=w) ?_ hk
 have he:(Op.equal T (.map (some b)) (.map none)).run P w=.ok false w:=by
  rw [Op.equal,Op.maxDepth,Op.equalIn.eq_def]
  simp [run_underlying hT]
 have hg:∀ x y,(eqGuard .eql T x y (.map (some b)) (.map none)).run P w=.ok () w:=fun x y=>by unfold eqGuard; simp
 simp only [cN,binOp,Sem.run_bind,hg,Result.andThen_ok,he,Sem.run_pure]
theorem ZG {T ty kt et:TypeId} {v:Value} (hT:P.underlying T=some (.map kt et)) (hk:K (.iface T v) w):Run P (sOp (.makeInterface T (.const v)) ty) w K:=by
 refine Run.of ?_ hk
 simp [sOp,execOp,ev0,evE,Instr.makeInterface,run_underlying hT]
theorem WY {T U ty kt et:TypeId} {v:Value} (hT:P.underlying T=some (.map kt et)) (hk:K v w):Run P (sOp (.typeAssert (.const (.iface T v)) U T false) ty) w K:=by
 refine Run.of ?_ hk
 simp [sOp,execOp,ev0,evE,Instr.typeAssert,run_underlying hT]
theorem XJ (h:Inv w0 X L S w) {f:FuncId} {fn:Func} {t b clock:Nat} {es:Array MapEntry} (hf:P.funcs[f]?=some fn) (hn:(fn.name == "runtime.NumGoroutine")=false) (hb:fn.body.isNone=true)
  (hx:(Extern.findNext fn).isNone=true) (hy:Extern.find fn=some Extern.MapsClone.clone) (hS:S b=some (.map es clock))
  (hk:∀ nb w',Inv w0 X (L++[.blk nb (.map es clock)]) S w'->K (.iface t (.map (some nb))) w'):Run P (eO (.func (.func f) #[] #[]) [.iface t (.map (some b))]) w K:=by
 have hbw:w.heap[b]?=some (.map es clock):=(h.pub _ _ hS).1
 refine Run.of (v:=.iface t (.map (some w.heap.size))) (w':={ w with heap:=w.heap.push (.map es clock) }) ?_ (hk _ _ (h.alloc _))
 have h1:¬ fn.name = "runtime.NumGoroutine" := by simpa using hn
 have h2:fn.body=none:=by simpa using hb
 have h3:Extern.findNext fn=none:=by simpa using hx
 have hg:(getObj b).run P w=.ok (.map es clock) w:=by simp [getObj,Sem.run,hbw]
 have hc:(Extern.MapsClone.clone #[.iface t (.map (some b))]).run P w=.ok (.iface t (.map (some w.heap.size))) { w with heap:=w.heap.push (.map es clock) }:=by
  have e:Extern.MapsClone.clone #[.iface t (.map (some b))]=(getObj b >>= fun o=>match o with
   | .map entries clock=>(newObj (.map entries clock) >>= fun n=>pure (.iface t (.map (some n))))
   | _=>stuck "maps.clone: a map expected"):=rfl
  rw [e]
  simp [hg,newObj,Sem.run,Result.andThen]
 simp [eO,Deferred.ofValue,invoke,callFunc,hf,h1,h2,h3,hy,hc]
end
section
attribute [local irreducible] Run CondV aw aN
theorem NW {S:af} {mb ck:Nat} {es:Array MapEntry} (hS:S mb=some (.map es ck)):Tri Tryz.prog Eo [.map (some mb)] [] S fun r I' S'=>S'=S/\∃ nb,r=.map (some nb)/\I'=[.blk nb (.map es ck)]:=by
 intro w hI
 refine pK.2 ?_
 dsimp only[pK,aL]
 refine XZ (kt:=cc) (et:=ac) (by kernel_rfl) ?_
 refine az (fun hb=>by cases hb) (fun _=>?_)
 refine ZG (kt:=cc) (et:=ac) (by kernel_rfl) ?_
 refine XJ hI Tryz.func292 (by kernel_rfl) (by kernel_rfl) (by kernel_rfl) (by kernel_rfl) hS fun nb w' hI=>?_
 refine WY (kt:=cc) (et:=ac) (by kernel_rfl) ?_
 exact ⟨_,_,_,rfl,hI,Ext.refl _ _ _,rfl,nb,rfl,rfl⟩
end
end
end Go.Proofs.YtgllldjiaglkcaaGreatDoor
