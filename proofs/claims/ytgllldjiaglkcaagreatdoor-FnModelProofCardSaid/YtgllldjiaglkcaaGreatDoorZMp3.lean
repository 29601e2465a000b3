/- Trees grown by append; impl.own and its kin. -/
import Derived.Test.YtgllldjiaglkcaaGreatDoorZMp2
import Derived.Test.YtgllldjiaglkcaaGreatDoorZMp1
namespace Go.Proofs.YtgllldjiaglkcaaGreatDoor
section
open Go Go.RowKit

structure Grown {α:Type} (k:Nat) (R:bm->List Value->α->Prop) (Ls:List bm) (css:List (List Value)) (ys:List α):Prop where
 hL:Ls.length=ys.length
 hc:css.length=ys.length
 hk:∀ cs∈css,cs.length=k
 hR:∀ i (h:i<ys.length) (h1:i<Ls.length) (h2:i<css.length),R Ls[i] css[i] ys[i]
theorem Grown.nil {α:Type} (k:Nat) (R:bm->List Value->α->Prop):Grown k R [] [] ([]:List α):=⟨rfl,rfl,by simp,fun i h=>by simp at h⟩
theorem Grown.snoc {α:Type} {k:Nat} {R:bm->List Value->α->Prop} {Ls:List bm} {css:List (List Value)} {ys:List α} (h:Grown k R Ls css ys) {L:bm} {cs:List Value} {y:α} (hR:R L cs y) (hl:cs.length=k) :
  Grown k R (Ls++[L]) (css++[cs]) (ys++[y]):=by
 refine ⟨by simp [h.hL],by simp [h.hc],fun c hc=>?_,fun i h0 h1 h2=>?_⟩
 ·rcases bO.1 hc with hc|hc
  ·exact h.hk c hc
  ·simp at hc; subst hc; exact hl
 ·have e1:=h.hL
  have e2:=h.hc
  by_cases hi:i<ys.length
  ·rw [gJ (by omega),gJ (by omega),gJ hi]
   exact h.hR i hi (by omega) (by omega)
  ·have:i=ys.length:=by simp at h0; omega
   subst this
   rw [gd (by omega),gd (by omega),gd (by omega)]
   simp only [e1,e2,eB,lG]
   exact hR
theorem jb (k:Nat):∀ (css:List (List Value)) (i:Nat) (_:∀ cs∈css,cs.length=k) (h:i<css.length),(css.flatten.drop (i * k)).take k=css[i]
 | [],i,_,h=>by simp at h
 | c::css,0,hk,_=>by
  have:=hk c (aS ..)
  rw [iT,Cf,Lb,QU (by omega),MU (by omega)]
  rfl
 | c::css,i+1,hk,h=>by
  have:=hk c (aS ..)
  rw [iT,lw,qK,<- Tn,List.drop_left' this]
  exact jb k css i (fun cs hc=>hk cs (aV _ hc)) (by simpa using h)
abbrev aJ (v:Value) (e:TypeId) (k:Nat) (css:List (List Value)):Item:=.row v e k css.length css.flatten
theorem Inv.rowTree {α:Type} {w0 w:World} {X:List Nat} {A:List Item} {S:ae} {v:Value} {e:TypeId} {k:Nat} {R:bm->List Value->α->Prop} {Ls:List bm} {css:List (List Value)} {ys:List α}
  (h:Inv w0 X (A++(aJ v e k css::bv Ls.flatten)) S w) (hg:Grown k R Ls css ys):∃ L,TrSl k R L v ys/\Inv w0 X (A++bv L) S w:=by
 have hp:List.Perm ((A++bv Ls.flatten)++[aJ v e k css]) (A++(aJ v e k css::bv Ls.flatten)):=by
  rw [eK]
  exact DZ _ cu
 obtain ⟨hl,ho⟩:=(h.perm hp).openRow
 have hcy:=hg.hc
 have hLy:=hg.hL
 rcases ho with ⟨rfl,h0⟩|⟨g,cap,cur,rfl,hnc,hcm,hcs,ht,hI⟩
 ·have:ys=[]:=gO (by omega)
  subst this
  refine ⟨[],TrSl.nil (by simp [maxLen]),?_⟩
  simpa [bv] using h.sub (dB _ _)
 ·by_cases hy:ys=[]
  ·subst hy
   have:css=[]:=gO (by simpa using hcy)
   subst this
   refine ⟨[],TrSl.nil hcm,?_⟩
   simpa [bv] using h.sub (dB _ _)
  ·refine ⟨(g,.cells cur e)::Ls.flatten,⟨_,cap,by rw [hcy],by omega,hcm,.inr ⟨g,cur,e,Ls,rfl,rfl,hLy,by omega,fun i h1 h2=>?_⟩⟩,?_⟩
   ·have hik:i * k+k<=css.length * k:=by rw [<- lw]; exact ja k (by omega)
    have:=jb k css i hg.hk (by omega)
    rw [<- ht,N3,oX,lm (by omega)] at this
    rw [aX,this]
    exact hg.hR i h1 h2 (by omega)
   ·refine hI.perm ?_
    rw [eK]
    exact DZ _ (cu (l₁:=[Item.blk g (.cells cur e)]))
theorem eF (v:Value) (e:TypeId) (k:Nat) (css:List (List Value)) (cs:List Value):Item.row v e k (css.length+1) (css.flatten++cs)=aJ v e k (css++[cs]):=by
 simp [aJ]
section
variable {P:Program} {w w0:World} {X:List Nat} {L:List Item} {S:ae} {K:Value->World->Prop}
attribute [local irreducible] Run CondV az aO
theorem d6 (h:Inv w0 X L S w) {T ty e:TypeId} {k by_:Nat} {z v:Value} {cs:List Bool} {css:List (List Value)} (i:Nat) (xs:List Value)
  (hT:mU P T=some (e,k,by_,z)) (hk0:0<k) (hk24:k<=65536) (hi:L[i]?=some (aJ v e k css)) (hl:xs.length=k) (h1:∀ u∈xs,u.oneCell'=true) (hfit:css.length+1<=4294967296) (hby:by_<=32768)
  {K:Value->Value->World->Prop} (hk:∀ v' w',Inv w0 X (L.set i (aJ v' e k (css++[xs]))) S w'->K (.slice (some ⟨w.heap.size,0,none⟩) 1 1) v' w') :
  Run P (bC T 1 [(0,.agg xs.toArray)]) w fun u w'=>Run P (bM .append #[T,T] ty cs [v,u]) w' (K u):=by
 refine uU h hT (by simp [Value.cells,hl]) hk24 hk0 fun w' hI=>?_
 have hil:i<L.length:=(gx.1 hi).1
 refine dZ hI i xs hT hk0 (by rw [z0 hil]; exact hi) (by omega) (m:=1) (o:=0) ?_ h1 hfit hby fun v' w' hI=>?_
 ·intro j u hj
  rw [hI.cellL (i:=L.length) (by rw [iu (aW _),eB]; rfl)]
  rw [cq]
  simpa [Value.cells] using hj
 ·refine hk _ _ ?_
  rw [<- eF]
  rw [Ta _ _ hil] at hI
  exact hI.sub (dB _ _)
end

section
attribute [local irreducible] Run CondV az aO
theorem HL {ts:List T} (ih:∀ t∈ts,∀ (S:ae) (cs:List Value),RdT S cs t->wT t<=1048576->Tri Tryz.prog TL [.agg cs.toArray] [] S (G5 S t))
  {S:ae} {v:Value} (h:RdSl S 4 (RdT S) v ts) (hw:ts.length+wL ts<=1048576):Tri Tryz.prog DI [v] [] S (TH 4 TrT S ts):=by
 intro w hI
 refine zW.2 ?_
 dsimp only[zW,aM]
 refine aF h ag ?_
 refine ⟨fun i t w'=>∃ (k:Nat) (Ls:List bm) (css:List (List Value)),k<=ts.length/\i=.int .i64 k/\Grown 4 TrT Ls css (ts.take k)/\Inv w [] (aJ t ab 4 css::bv Ls.flatten) S w',
  fun i _ _=>ts.length - (intOf i).toNat,⟨0,[],[],be _,rfl,Grown.nil _ _,hI.rowNil ab 4⟩,?_⟩
 intro t8 _ t3 _ _ _ _ _ _ _ _ _ w'
 rintro ⟨k,Ls,css,hk,rfl,hg,hI⟩
 refine bH ?_
 refine aL (fun hki=>?_) (fun hki=>?_)
 ·have hk':k<ts.length:=by omega
  have htl:(ts.take k).length=k:=by simp; omega
  have hcl:=hg.hc
  refine cL hI h ag ad hk' (fun _ _=>RdT.length) fun cs hcs=>?_
  have hm:=bz hk'
  have hwm:=js hm
  have hlc:=hcs.length
  refine aT hI aZ fun b6 w' hI=>?_
  have hI:=hI.perm (M:=.blk b6 _::(aJ t3 ab 4 css::bv Ls.flatten)) (cu (l₁:=[_]))
  refine aC hI 0 rfl ad (by simpa using hlc) rfl (by simpa using hcs.one) fun w' hI=>?_
  refine av hI 0 ad rfl (by simpa using hlc) ?_
  have hI:Inv w [] (aJ t3 ab 4 css::bv Ls.flatten) S w':=hI.sub (iz _ _)
  refine Run.call0 HA G9 hI (ih _ hm S cs hcs (by omega)) fun v' I' S' w'=>?_
  rintro ⟨rfl,cs',L,rfl,rfl,hT⟩ _ hI
  refine d6 hI 0 cs' bo (by omega) (by omega) rfl hT.length hT.one (by omega) (by omega) fun v' w' hI=>?_
  refine bp (by omega) ?_
  refine ⟨⟨k+1,Ls++[L],css++[cs'],hk',rfl,?_,?_⟩,by simp [intOf]; omega⟩
  ·rw [fl hk']
   exact hg.snoc hT hT.length
  ·simp only [vD,iT,ur,dh,eC]
   exact hI
 ·have:k=ts.length:=by omega
  subst this
  rw [fJ] at hg
  obtain ⟨L,hT,hI⟩:=Inv.rowTree (A:=[]) hI hg
  exact ⟨_,_,_,rfl,hI,Ext.refl _ _ _,rfl,_,rfl,hT⟩
theorem AY:∀ (t:T) (S:ae) (cs:List Value),RdT S cs t->wT t<=1048576->Tri Tryz.prog TL [.agg cs.toArray] [] S (G5 S t):=by
 refine T.ind fun k n s ks ih S cs h hw=>?_
 intro w hI
 obtain ⟨kv,rfl,h1,h2,hs,hks⟩:=RdT.iff.1 h
 simp only [T.name,T.kids,T.kind,T.n] at h1 h2 hs hks ⊢
 simp only [wT] at hw
 refine O3.2 ?_
 dsimp only[O3,aM]
 refine bq hI fun b1 w' hI=>?_
 refine aT hI aZ fun b2 w' hI=>?_
 refine af hI 0 rfl ao aj rfl ?_
 refine Run.call0 qF qT hI (HL ih hks (by omega)) fun v' I' S' w'=>?_
 rintro ⟨rfl,L,rfl,hT⟩ _ hI
 have hv:v'.cells=#[v']/\v'.oneCell'=true:=by obtain ⟨a,cap,rfl,_⟩:=hT; exact ⟨rfl,rfl⟩
 refine du hI 0 rfl ao aj rfl hv.1 hv.2 fun w' hI=>?_
 refine av hI 0 ad rfl rfl ?_
 refine aC hI 1 rfl ad rfl rfl ?_ fun w' hI=>?_
 ·intro u hu
  have hu':u∈([.int .i64 k,.int .i64 n,.string s,v']:List Value):=hu
  simp at hu'
  rcases hu' with rfl|rfl|rfl|rfl <;> first|rfl|exact hv.2
 refine bJ hI 1 ad rfl rfl ?_
 refine ⟨_,_,_,rfl,hI.sub (ei [_,_] (bv L)),Ext.refl _ _ _,rfl,[.int .i64 k,.int .i64 n,.string s,v'],L,rfl,rfl,TrT.iff.2 ⟨v',rfl,h1,h2,hs,hT⟩⟩
theorem wb {ts:List T} {S:ae} {v:Value} (h:RdSl S 4 (RdT S) v ts) (hw:ts.length+wL ts<=1048576):Tri Tryz.prog DI [v] [] S (TH 4 TrT S ts):=
 HL (fun t _=>AY t) h hw
end
end
section
open Go Go.RowKit
section
variable {w:World} {K:Value->World->Prop}
attribute [local irreducible] Run
theorem oz {a b:Int} {s:ByteArray} {k:Value} (hk:K (.agg #[.int .i64 a,.int .i64 b,.string s,k,.slice none 0 0]) w):Run Tryz.prog (cB aq [(0,.agg #[.int .i64 a,.int .i64 b,.string s,k])]) w K:=by
 refine Run.of (v:=.agg #[.int .i64 a,.int .i64 b,.string s,k,.slice none 0 0]) (w':=w) ?_ hk
 unfold cB
 rw [Sem.run_bind,run_build w aq _ #[.int .i64 a,.int .i64 b,.string s,k,.slice none 0 0] (by kernel_rfl),Result.andThen_ok]
 rfl
theorem sB {a b:Int} {s:ByteArray} (hk:K (.agg #[.int .i64 a,.int .i64 b,.string s,.slice none 0 0]) w):Run Tryz.prog (cB ab [(0,.int .i64 a),(1,.int .i64 b),(2,.string s)]) w K:=by
 refine Run.of (v:=.agg #[.int .i64 a,.int .i64 b,.string s,.slice none 0 0]) (w':=w) ?_ hk
 unfold cB
 rw [Sem.run_bind,run_build w ab _ #[.int .i64 a,.int .i64 b,.string s,.slice none 0 0] (by kernel_rfl),Result.andThen_ok]
 rfl
end
section
attribute [local irreducible] Run CondV az aO
end
end
section
open Go Go.RowKit
theorem RdC.one {S:ae} {cs:List Value} {c:C} (h:RdC S cs c):∀ u∈cs,u.oneCell'=true:=by
 obtain ⟨hd,ks,rfl,h1,a,cap,rfl,_⟩:=h
 intro u hu
 rcases bO.1 hu with hu|hu
 ·exact h1.one u hu
 ·simp at hu; subst hu; rfl
section
attribute [local irreducible] Run CondV az aO
theorem Inv.rowSlice {w0 w:World} {X:List Nat} {L:List Item} {S:ae} {v:Value} {e:TypeId} {k n:Nat} {xs:List Value} (h:Inv w0 X L S w) (i:Nat) (hi:L[i]?=some (.row v e k n xs)):∃ a m c,v=.slice a m c:=by
 have hm:w.ownsRow 0 e k v n xs:=h.its (.row v e k n xs) (cz hi)
 rcases hm.2 with ⟨rfl,_⟩|⟨g,cap,cur,rfl,_⟩
 ·exact ⟨_,_,_,rfl⟩
 ·exact ⟨_,_,_,rfl⟩
def bi (B1 B2 B3 B3' r r':Item) (rest:List Item) (M:bm) (B27:Item) (d7 d8 d9 d11:Bool):List Item:=
 B1::B2::(match d11 with|true=>B3'|false=>B3)::(match d9 with|true=>r'|false=>r)::(rest++((match d7 with|true=>bv M|false=>[])++(match d8 with|true=>[B27]|false=>[])))

theorem gh:∀ (t:T) (S:ae) (cs:List Value),RdT S cs t->wT t<=1048576->Tri Tryz.prog xJ [.agg cs.toArray] [] S (G5 S t):=by
 refine T.ind fun k n s ks ih S cs h hw=>?_
 intro w hI
 obtain ⟨kv,rfl,h1,h2,hs,hks⟩:=RdT.iff.1 h
 simp only [T.name,T.kids,T.kind,T.n] at h1 h2 hs hks ⊢
 simp only [wT] at hw
 refine oA.2 ?_
 dsimp only[oA,aM]
 refine bq hI fun b1 w' hI=>?_
 refine aT hI aZ fun b2 w' hI=>?_
 refine af hI 0 rfl aR aG rfl ?_
 refine af hI 0 rfl bf aG rfl ?_
 refine af hI 0 rfl bb aU rfl ?_
 refine sB ?_
 refine aT hI aZ fun b3 w' hI=>?_
 refine aC hI 2 rfl ad rfl rfl (by simp [Value.oneCell']) fun w' hI=>?_
 have hI:=hI.rowNil ab 4
 refine ⟨fun i w'=>∃ (j:Nat) (kvc:Value) (Ls:List bm) (css:List (List Value)),j<=ks.length/\i=.int .i64 j/\Grown 4 TrT Ls css (ks.take j)/\
   Inv w [] (.blk b1 (.cells #[.int .i64 k,.int .i64 n,.string s,kv] ab)::.blk b2 (.cells #[.int .i64 0,.int .i64 0,.string ⟨#[]⟩,.slice none 0 0] ab)::.blk b3 (.cells #[.int .i64 k,.int .i64 n,.string s,kvc] ab)::aJ kvc ab 4 css::bv Ls.flatten) S w',
  fun i _=>ks.length - (intOf i).toNat,⟨0,_,[],[],be _,rfl,Grown.nil _ _,hI⟩,?_⟩
 intro t4 _ _ _ _ _ _ _ _ _ _ _ _ _ _ _ _ _ _ w'
 rintro ⟨j,kvc,Ls,css,hj,rfl,hg,hI⟩
 refine af hI 0 rfl ao aj rfl ?_
 refine aF hks ag ?_
 refine bH ?_
 refine aL (fun hji=>?_) (fun hji=>?_)
 ·have hj':j<ks.length:=by omega
  have hjl:(ks.take j).length=j:=by simp; omega
  have hcl:=hg.hc
  have hm:=bz hj'
  have hwm:=js hm
  obtain ⟨b,o,cap,c,E,fz,rfl,hS,hR⟩:=hks.at_ hj'
  refine ⟨fun D su jO uk mM gk lK tx uK sj oU lp w_=>Fx D 0 [lp=.pointer (some ⟨b3,3,none⟩),oU=kvc,sj=.pointer (some ⟨b1,3,none⟩),uK=.slice (some ⟨b,o,none⟩) (ks).length cap,tx=.int .i64 j,lK=.pointer (some ⟨b,o+j * 4,none⟩),gk=.agg (aX c (o+j * 4) 4).toArray,True,True,True,su=.pointer (some ⟨b3,3,none⟩),True]/\∃ M cs7 b8,(D 7=true->mM=.agg cs7.toArray/\TrT M cs7 (ks)[j])/\(D 8=true->uk=.slice (some ⟨b8,0,none⟩) 1 1)/\(D 8=true->D 7=true)/\(D 9=true->D 8=true)/\(D 11=true->D 9=true)/\(D 11=true->D 1=true)/\Inv w [] (bi (.blk b1 (.cells #[.int .i64 k,.int .i64 n,.string s,.slice (some ⟨b,o,none⟩) ks.length cap] ab)) (.blk b2 (.cells #[.int .i64 0,.int .i64 0,.string ⟨#[]⟩,.slice none 0 0] ab)) (.blk b3 (.cells #[.int .i64 k,.int .i64 n,.string s,kvc] ab)) (.blk b3 (.cells #[.int .i64 k,.int .i64 n,.string s,jO] ab)) (aJ kvc ab 4 css) (aJ jO ab 4 (css++[cs7])) (bv Ls.flatten) M (.blk b8 (.cells cs7.toArray ab)) (D 7) (D 8) (D 9) (D 11)) S w_,⟨Fx.nil _ _,⟨[],[],0,aQ,aQ,aQ,aQ,aQ,aQ,by simpa [bi,bv] using hI.draw⟩⟩,⟨?_,?_,?_,?_,?_,?_,?_,?_,?_,?_,?_,?_,trivial⟩,?_⟩
  all_goals (intro D bF; intros; rename_i su jO uk mM gk lK tx uK sj oU lp w_ hA_; have hF_:=hA_.1; obtain ⟨⟨cj,ci,bR,ce,bP,bY,bZ,cH,c5,dI,bX,cr,_⟩,⟨M,cs7,b8,e7,e8,k8,k9,k11,k1,hI⟩⟩:=hA_)
  ·refine au ao ?_
   exact ⟨hF_.set 0 rfl,⟨M,cs7,b8,e7,e8,k8,k9,k11,k1,hI⟩⟩
  ·obtain rfl:=cj ‹_›
   have f11:D 11=false:=bB.2 fun h=>by rw [k1 h] at bF; cases bF
   refine aN (b:=b3) hI 2 (c:=(#[.int .i64 k,.int .i64 n,.string s,kvc])) aj (by rw [f11]; rfl) rfl ?_
   have k1:=fun (_:aD D 1 11=true)=>(rfl:aD D 1 1=true)
   exact ⟨hF_.set 1 rfl,⟨M,cs7,b8,e7,e8,k8,k9,k11,k1,hI⟩⟩
  ·refine au ao ?_
   exact ⟨hF_.set 2 rfl,⟨M,cs7,b8,e7,e8,k8,k9,k11,k1,hI⟩⟩
  ·obtain rfl:=bR ‹_›
   refine aN hI 0 aj rfl rfl ?_
   exact ⟨hF_.set 3 rfl,⟨M,cs7,b8,e7,e8,k8,k9,k11,k1,hI⟩⟩
  ·exact ⟨hF_.set 4 rfl,⟨M,cs7,b8,e7,e8,k8,k9,k11,k1,hI⟩⟩
  ·obtain rfl:=ce ‹_›
   obtain rfl:=bP ‹_›
   refine aE ag hj' ?_
   exact ⟨hF_.set 5 rfl,⟨M,cs7,b8,e7,e8,k8,k9,k11,k1,hI⟩⟩
  ·obtain rfl:=bY ‹_›
   refine bL ad hR.length (fun j v hj=>by rw [hI.cellS hS]; exact aH rfl j v hj) ?_
   exact ⟨hF_.set 6 rfl,⟨M,cs7,b8,e7,e8,k8,k9,k11,k1,hI⟩⟩
  ·obtain rfl:=bZ ‹_›
   have f8:D 8=false:=bB.2 fun h=>by rw [k8 h] at bF; cases bF
   have f9:D 9=false:=bB.2 fun h=>by rw [k9 h] at f8; cases f8
   have f11:D 11=false:=bB.2 fun h=>by rw [k11 h] at f9; cases f9
   rw [bF,f8,f9,f11] at hI
   refine Run.call0 fy fB hI (ih _ (bz hj') S _ hR (by omega)) fun v' I' S w_=>?_
   rintro ⟨rfl,cs7,M,rfl,rfl,hT⟩ _ hI
   have e7:aD D 7 7=true->Value.agg cs7.toArray=Value.agg cs7.toArray/\TrT M cs7 (ks)[j]:=fun _=>⟨rfl,hT⟩
   have k8:=fun (_:aD D 7 8=true)=>(rfl:aD D 7 7=true)
   have hI:Inv w [] (bi (.blk b1 (.cells #[.int .i64 k,.int .i64 n,.string s,.slice (some ⟨b,o,none⟩) ks.length cap] ab)) (.blk b2 (.cells #[.int .i64 0,.int .i64 0,.string ⟨#[]⟩,.slice none 0 0] ab)) (.blk b3 (.cells #[.int .i64 k,.int .i64 n,.string s,kvc] ab)) (.blk b3 (.cells #[.int .i64 k,.int .i64 n,.string s,jO] ab)) (aJ kvc ab 4 css) (aJ jO ab 4 (css++[cs7])) (bv Ls.flatten) M (.blk b8 (.cells cs7.toArray ab)) true (D 8) (D 9) (D 11)) S w_:=by
    rw [f8,f9,f11]
    simpa [bi] using hI
   exact ⟨hF_.set 7 (by first|assumption|trivial),⟨M,cs7,b8,e7,e8,k8,k9,k11,k1,hI⟩⟩
  ·have Io:=cH ‹_›
   have f9:D 9=false:=bB.2 fun h=>by rw [k9 h] at bF; cases bF
   have f11:D 11=false:=bB.2 fun h=>by rw [k11 h] at f9; cases f9
   obtain ⟨q7,hT⟩:=e7 ‹D 7=true›
   subst q7
   rw [‹D 7=true›,bF,f9,f11] at hI
   refine er hI bo (by simp [Value.cells,hT.length]) (by omega) (by omega) fun b8 w_ hI=>?_
   have e7:aD D 8 7=true->Value.agg cs7.toArray=Value.agg cs7.toArray/\TrT M cs7 (ks)[j]:=fun _=>⟨rfl,hT⟩
   have e8:=fun (_:aD D 8 8=true)=>(rfl:Value.slice (some ⟨b8,0,none⟩) 1 1=_)
   have k8:=fun (_:aD D 8 8=true)=>‹D 7=true›
   have k9:=fun (_:aD D 8 9=true)=>(rfl:aD D 8 8=true)
   have hI:Inv w [] (bi (.blk b1 (.cells #[.int .i64 k,.int .i64 n,.string s,.slice (some ⟨b,o,none⟩) ks.length cap] ab)) (.blk b2 (.cells #[.int .i64 0,.int .i64 0,.string ⟨#[]⟩,.slice none 0 0] ab)) (.blk b3 (.cells #[.int .i64 k,.int .i64 n,.string s,kvc] ab)) (.blk b3 (.cells #[.int .i64 k,.int .i64 n,.string s,jO] ab)) (aJ kvc ab 4 css) (aJ jO ab 4 (css++[cs7])) (bv Ls.flatten) M (.blk b8 (.cells cs7.toArray ab)) (D 7) true (D 9) (D 11)) S w_:=by
    rw [‹D 7=true›,f9,f11]
    simpa [bi,Value.cells] using hI
   exact ⟨hF_.set 8 (by first|assumption|trivial),⟨M,cs7,b8,e7,e8,k8,k9,k11,k1,hI⟩⟩
  ·obtain rfl:=ci ‹_›
   have QF:=c5 ‹_›
   have f11:D 11=false:=bB.2 fun h=>by rw [k11 h] at bF; cases bF
   have q8:=e8 ‹D 8=true›
   subst q8
   obtain ⟨_,hT⟩:=e7 ‹D 7=true›
   rw [‹D 7=true›,‹D 8=true›,bF,f11] at hI
   have hblk:((bi (.blk b1 (.cells #[.int .i64 k,.int .i64 n,.string s,.slice (some ⟨b,o,none⟩) ks.length cap] ab)) (.blk b2 (.cells #[.int .i64 0,.int .i64 0,.string ⟨#[]⟩,.slice none 0 0] ab)) (.blk b3 (.cells #[.int .i64 k,.int .i64 n,.string s,oU] ab)) (.blk b3 (.cells #[.int .i64 k,.int .i64 n,.string s,jO] ab)) (aJ oU ab 4 css) (aJ jO ab 4 (css++[cs7])) (bv Ls.flatten) M (.blk b8 (.cells cs7.toArray ab)) true true false false))[4+(bv Ls.flatten).length+(bv M).length]?=some (.blk b8 (.cells cs7.toArray ab)):=by
    have e4:4+(bv Ls.flatten).length+(bv M).length=((bv Ls.flatten).length+(bv M).length)+1+1+1+1:=by omega
    rw [e4]
    simp only [bi,mB]
    rw [iu (by omega),oV,iu (aW _),eB]; rfl
   refine dZ hI 3 cs7 bo (by omega) rfl (by rw [hT.length]) (m:=1) (o:=0) ?_ hT.one (by omega) (by omega) fun v' w_ hI=>?_
   ·intro i u hi
    rw [hI.cellL hblk,cq]
    simpa using hi
   rw [eF] at hI
   have k9:=fun (_:aD D 9 9=true)=>‹D 8=true›
   have k11:=fun (_:aD D 9 11=true)=>(rfl:aD D 9 9=true)
   have hI:Inv w [] (bi (.blk b1 (.cells #[.int .i64 k,.int .i64 n,.string s,.slice (some ⟨b,o,none⟩) ks.length cap] ab)) (.blk b2 (.cells #[.int .i64 0,.int .i64 0,.string ⟨#[]⟩,.slice none 0 0] ab)) (.blk b3 (.cells #[.int .i64 k,.int .i64 n,.string s,oU] ab)) (.blk b3 (.cells #[.int .i64 k,.int .i64 n,.string s,v'] ab)) (aJ oU ab 4 css) (aJ v' ab 4 (css++[cs7])) (bv Ls.flatten) M (.blk b8 (.cells cs7.toArray ab)) (D 7) (D 8) true (D 11)) S w_:=by
    rw [‹D 7=true›,‹D 8=true›,f11]
    exact hI
   exact ⟨hF_.set 9 (by first|assumption|trivial),⟨M,cs7,b8,e7,e8,k8,k9,k11,k1,hI⟩⟩
  ·refine au ao ?_
   exact ⟨hF_.set 10 rfl,⟨M,cs7,b8,e7,e8,k8,k9,k11,k1,hI⟩⟩
  ·obtain rfl:=bX ‹_›
   have X8:=dI ‹_›
   rw [‹D 7=true›,‹D 8=true›,‹D 9=true›,bF] at hI
   obtain ⟨va,vn,vc,hv9⟩:=Inv.rowSlice hI 3 rfl
   refine cW hI 2 (n:=1) (by rw [hv9]; rfl) (by decide +kernel) rfl (by simp) (by rw [hv9]; simp [Value.cells,Value.oneCell']) fun w_ hI=>?_
   have hcl9:Value.cells jO=#[jO]:=by rw [hv9]; rfl
   rw [hcl9] at hI
   have k1:=fun (_:aD D 11 11=true)=>‹D 1=true›
   have k11:=fun (_:aD D 11 11=true)=>‹D 9=true›
   have hI:Inv w [] (bi (.blk b1 (.cells #[.int .i64 k,.int .i64 n,.string s,.slice (some ⟨b,o,none⟩) ks.length cap] ab)) (.blk b2 (.cells #[.int .i64 0,.int .i64 0,.string ⟨#[]⟩,.slice none 0 0] ab)) (.blk b3 (.cells #[.int .i64 k,.int .i64 n,.string s,kvc] ab)) (.blk b3 (.cells #[.int .i64 k,.int .i64 n,.string s,jO] ab)) (aJ kvc ab 4 css) (aJ jO ab 4 (css++[cs7])) (bv Ls.flatten) M (.blk b8 (.cells cs7.toArray ab)) (D 7) (D 8) (D 9) true) S w_:=by
    rw [‹D 7=true›,‹D 8=true›,‹D 9=true›]
    exact hI
   exact ⟨hF_.set 11 trivial,⟨M,cs7,b8,e7,e8,k8,k9,k11,k1,hI⟩⟩
  obtain ⟨rfl,rfl,rfl,rfl,rfl,rfl,rfl,Io,QF,X8,rfl,_,_⟩:=hF_.all
  have AP:D 7=true:=by assumption
  have MV:D 8=true:=by assumption
  have Zm:D 9=true:=by assumption
  have np:D 11=true:=by assumption
  clear hF_ cj ci bR ce bP bY bZ cH c5 dI bX cr
  obtain ⟨_,hT⟩:=e7 AP
  rw [AP,MV,Zm,np] at hI
  refine bp (by omega) ?_
  refine ⟨⟨j+1,jO,Ls++[M],css++[cs7],hj',rfl,?_,?_⟩,by simp [intOf]; omega⟩
  ·rw [fl hj']
   exact hg.snoc hT hT.length
  ·simp only [vD,iT,ur,dh,eC]
   refine hI.sub ?_
   simp only [bi]
   rw [<- eK]
   exact (((dB _ _).cons_cons _).cons_cons _).cons_cons _ |>.cons_cons _
 ·have:j=ks.length:=by omega
  subst this
  rw [fJ] at hg
  obtain ⟨va,vn,vc,hvk⟩:=hI.rowSlice 3 rfl
  have hv1:kvc.oneCell'=true:=by rw [hvk]; rfl
  refine av hI 2 ad rfl rfl ?_
  refine aC hI 1 rfl ad rfl rfl ?_ fun w' hI=>?_
  ·intro u hu
   have hu':u∈([.int .i64 k,.int .i64 n,.string s,kvc]:List Value):=hu
   simp at hu'
   rcases hu' with rfl|rfl|rfl|rfl <;> first|rfl|exact hv1
  refine bJ hI 1 ad rfl rfl ?_
  have hI:Inv w [] ([]++(aJ kvc ab 4 css::bv Ls.flatten)) S w':=hI.sub (ei [_,_,_] _)
  obtain ⟨L,hT,hI⟩:=Inv.rowTree hI hg
  exact ⟨_,_,_,rfl,hI,Ext.refl _ _ _,rfl,_,L,rfl,rfl,TrT.iff.2 ⟨kvc,rfl,h1,h2,hs,hT⟩⟩
end
end
section
open Go Go.RowKit
attribute [local irreducible] Run CondV az aO

def lr (t u:T):Bool:=decide (t.kind=u.kind) && (decide (t.n=u.n) && (decide (t.name=u.name) && decide (t.kids.length=u.kids.length)))
theorem eG (k n k' n':Int) (s s':ByteArray) (ks ks':List T):lr (.mk k n s ks) (.mk k' n' s' ks')=(decide (k=k') && (decide (n=n') && (decide (s=s') && decide (ks.length=ks'.length)))):=rfl
theorem Uy {α β:Type} (a:List α) (b:List β):decide (a.length=b.length)=decide ((a.length:Int)=(b.length:Int)):=by
 rw [mf]
 simp only [bk]
 omega
theorem aal (t u:T):eqT t u=(lr t u && eqL t.kids u.kids):=by
 obtain ⟨k,n,s,ks⟩:=t
 obtain ⟨k',n',s',ks'⟩:=u
 rw [eqT,eG]
 by_cases h:ks.length=ks'.length
 ·rw [aI h,TI,Ec,Ec]; rfl
 ·rw [TV h,aP h]; simp
theorem qn:∀ (t u:T) (S:ae) (cs ds:List Value),RdT S cs t->RdT S ds u->Pure Tryz.prog Mk [.agg cs.toArray,.agg ds.toArray] S (.bool (eqT t u)):=by
 refine T.ind fun k n s ks ih u S cs ds h h'=>?_
 intro w hI
 obtain ⟨kv,rfl,_,_,_,hks⟩:=RdT.iff.1 h
 obtain ⟨kv',rfl,_,_,_,hks'⟩:=RdT.iff.1 h'
 obtain ⟨k',n',s',ks'⟩:=u
 simp only [T.name,T.kids,T.kind,T.n] at hks hks' ⊢
 have hlen:=hks.le
 simp only [maxLen] at hlen
 refine vJ.2 ?_
 dsimp only[vJ,aY]
 refine bq hI fun b1 w' hI=>?_
 refine bq hI fun b2 w' hI=>?_
 have hI:Inv w [] [.blk b1 (.cells #[.int .i64 k,.int .i64 n,.string s,kv] ab),.blk b2 (.cells #[.int .i64 k',.int .i64 n',.string s',kv'] ab)] S w':=hI
 refine ⟨fun q w'=>q=.bool (!lr (.mk k n s ks) (.mk k' n' s' ks'))/\Inv w [] [.blk b1 (.cells #[.int .i64 k,.int .i64 n,.string s,kv] ab),.blk b2 (.cells #[.int .i64 k',.int .i64 n',.string s',kv'] ab)] S w',?_,?_⟩
 ·refine af hI 0 rfl aR aG rfl ?_
  refine af hI 1 rfl aR aG rfl ?_
  refine ef ?_
  by_cases e1:k=k'
  ·rw [aI e1]
   refine rpG ?_
   refine af hI 0 rfl bf aG rfl ?_
   refine af hI 1 rfl bf aG rfl ?_
   refine ef ?_
   by_cases e2:n=n'
   ·rw [aI e2]
    refine rpG ?_
    refine af hI 0 rfl bb aU rfl ?_
    refine af hI 1 rfl bb aU rfl ?_
    refine xW ?_
    by_cases e3:s=s'
    ·rw [aI e3]
     refine rpG ?_
     refine af hI 0 rfl ao aj rfl ?_
     refine aF hks ag ?_
     refine af hI 1 rfl ao aj rfl ?_
     refine aF hks' ag ?_
     refine ef ?_
     refine rpG ?_
     exact ⟨by rw [eG,aI e1,aI e2,aI e3,Uy]; rfl,hI⟩
    ·rw [aP e3]
     refine rpG ?_
     exact ⟨by rw [eG,aI e1,aI e2,aP e3]; rfl,hI⟩
   ·rw [aP e2]
    refine rpG ?_
    exact ⟨by rw [eG,aI e1,aP e2]; rfl,hI⟩
  ·rw [aP e1]
   refine rpG ?_
   exact ⟨by rw [eG,aP e1]; rfl,hI⟩

 intro q _ _ _ _ _ _ _ _ _ _ _ _ _ _ _ _ _ _ _ _ _ _ _ _ _ _ _ w'
 rintro ⟨rfl,hI⟩
 rw [aal]
 cases hd:lr (.mk k n s ks) (.mk k' n' s' ks')
 ·refine aw (fun _=>done hI rfl) (fun hb=>by cases hb)
 refine aw (fun hb=>by cases hb) (fun _=>?_)
 have hle:ks.length=ks'.length:=by
  rw [eG] at hd
  simp only [bu,bk] at hd
  exact hd.2.2.2
 simp only [T.kids,dg]
 refine ⟨fun i w'=>∃ j:Nat,j<=ks.length/\i=.int .i64 j/\eqL (ks.drop j) (ks'.drop j)=eqL ks ks'/\Inv w [] [.blk b1 (.cells #[.int .i64 k,.int .i64 n,.string s,kv] ab),.blk b2 (.cells #[.int .i64 k',.int .i64 n',.string s',kv'] ab)] S w',fun i _=>ks.length - (intOf i).toNat,⟨0,be _,rfl,rfl,hI⟩,?_⟩
 intro t5 _ _ _ _ _ _ _ _ _ _ _ _ _ _ _ _ _ _ _ _ w'
 rintro ⟨j,hj,rfl,hrel,hI⟩
 refine af hI 0 rfl ao aj rfl ?_
 refine aF hks ag ?_
 refine bH ?_
 refine aL (fun hji=>?_) (fun hji=>?_)
 ·have hj1:j<ks.length:=by omega
  have hj2:j<ks'.length:=by omega
  obtain ⟨c1,o1,cap1,a1,E1,fz1,rfl,hS1,hR1⟩:=hks.at_ hj1
  obtain ⟨c2,o2,cap2,a2,E2,fz2,rfl,hS2,hR2⟩:=hks'.at_ hj2
  have hstep:eqL (ks.drop j) (ks'.drop j)=(eqT ks[j] ks'[j] && eqL (ks.drop (j+1)) (ks'.drop (j+1))):=by
   rw [cU hj1,cU hj2,eqL]
  refine ⟨fun D wa vA vY ut nR oK sW vO wB tB mg qB w_=>Fx D 0 [qB=.pointer (some ⟨b1,3,none⟩),mg=.slice (some ⟨c1,o1,none⟩) ks.length cap1,tB=.int .i64 j,wB=.pointer (some ⟨c1,o1+j * 4,none⟩),vO=.agg (aX a1 (o1+j * 4) 4).toArray,sW=.pointer (some ⟨b2,3,none⟩),oK=.slice (some ⟨c2,o2,none⟩) ks'.length cap2,nR=.int .i64 j,ut=.pointer (some ⟨c2,o2+j * 4,none⟩),vY=.agg (aX a2 (o2+j * 4) 4).toArray,vA=.bool (eqT ks[j] ks'[j]),wa=.bool (!eqT ks[j] ks'[j])]/\Inv w [] [.blk b1 (.cells #[.int .i64 k,.int .i64 n,.string s,.slice (some ⟨c1,o1,none⟩) ks.length cap1] ab),.blk b2 (.cells #[.int .i64 k',.int .i64 n',.string s',.slice (some ⟨c2,o2,none⟩) ks'.length cap2] ab)] S w_,⟨Fx.nil _ _,hI.draw⟩,⟨?_,?_,?_,?_,?_,?_,?_,?_,?_,?_,?_,?_,trivial⟩,?_⟩
  all_goals (intro D bF; intros; rename_i wa vA vY ut nR oK sW vO wB tB mg qB w_ hA_; have hF_:=hA_.1; obtain ⟨⟨cj,ci,bR,ce,bP,bY,bZ,cH,c5,dI,bX,cr,_⟩,hI⟩:=hA_)
  ·refine au ao ?_
   exact ⟨hF_.set 0 rfl,hI⟩
  ·obtain rfl:=cj ‹_›
   refine aN hI 0 aj rfl rfl ?_
   exact ⟨hF_.set 1 rfl,hI⟩
  ·exact ⟨hF_.set 2 rfl,hI⟩
  ·obtain rfl:=ci ‹_›
   obtain rfl:=bR ‹_›
   refine aE ag hj1 ?_
   exact ⟨hF_.set 3 rfl,hI⟩
  ·obtain rfl:=ce ‹_›
   refine bL ad hR1.length (fun j v hj=>by rw [hI.cellS hS1]; exact aH rfl j v hj) ?_
   exact ⟨hF_.set 4 rfl,hI⟩
  ·refine au ao ?_
   exact ⟨hF_.set 5 rfl,hI⟩
  ·obtain rfl:=bY ‹_›
   refine aN hI 1 aj rfl rfl ?_
   exact ⟨hF_.set 6 rfl,hI⟩
  ·exact ⟨hF_.set 7 rfl,hI⟩
  ·obtain rfl:=bZ ‹_›
   obtain rfl:=cH ‹_›
   refine aE ag hj2 ?_
   exact ⟨hF_.set 8 rfl,hI⟩
  ·obtain rfl:=c5 ‹_›
   refine bL ad hR2.length (fun j v hj=>by rw [hI.cellS hS2]; exact aH rfl j v hj) ?_
   exact ⟨hF_.set 9 rfl,hI⟩
  ·obtain rfl:=bP ‹_›
   obtain rfl:=dI ‹_›
   refine Run.callPure oN oL hI (ih _ (bz hj1) _ S _ _ hR1 hR2) fun w_ hI=>?_
   exact ⟨hF_.set 10 rfl,hI⟩
  ·obtain rfl:=bX ‹_›
   refine bQ ?_
   exact ⟨hF_.set 11 rfl,hI⟩
  obtain ⟨rfl,rfl,rfl,rfl,rfl,rfl,rfl,rfl,rfl,rfl,rfl,rfl,_⟩:=hF_.all
  clear hF_ cj ci bR ce bP bY bZ cH c5 dI bX cr
  refine aw (fun hne=>?_) (fun he'=>?_)
  ·exact done hI (by rw [<- hrel,hstep]; simp at hne; rw [hne]; rfl)
  ·refine bp (by omega) ?_
   refine ⟨⟨j+1,hj1,rfl,?_,hI⟩,by simp [intOf]; omega⟩
   rw [<- hrel,hstep]
   simp at he'
   rw [he',dg]
 ·have:j=ks.length:=by omega
  subst this
  refine done hI ?_
  rw [<- hrel,dO,hle,dO]
  rfl
end
section
open Go Go.RowKit
attribute [local irreducible] Run CondV az aO

theorem NA {xs:List T} (ih:∀ t∈xs,∀ (u:T) (S:ae) (cs ds:List Value),RdT S cs t->RdT S ds u->Pure Tryz.prog lS [.agg cs.toArray,.agg ds.toArray] S (.bool (eqT t u)))
  {ys:List T} {S:ae} {v u:Value} (h:RdSl S 4 (RdT S) v xs) (h':RdSl S 4 (RdT S) u ys):Pure Tryz.prog wZ [v,u,.func (.func lS) #[] #[]] S (.bool (eqL xs ys)):=by
 intro w hI
 have hlen:(xs.length:Int)<=9223372036854775807:=by have:=h.le; simp only [maxLen] at this; omega
 refine lJ.2 ?_
 dsimp only[lJ,dN]
 refine aF h ag ?_
 refine aF h' ag ?_
 refine ef ?_
 refine aw (fun hne=>?_) (fun he=>?_)
 ·exact done hI (by rw [TV (by simp at hne; omega)])
 have he:xs.length=ys.length:=by simp at he; omega
 refine aF h ag ?_
 refine ⟨fun i w'=>∃ (k:Nat),k<=xs.length/\i=.int .i64 k/\eqL (xs.drop k) (ys.drop k)=eqL xs ys/\Inv w [] [] S w',fun i _=>xs.length - (intOf i).toNat,⟨0,be _,rfl,rfl,hI⟩,?_⟩
 intro t5 _ _ _ _ _ _ _ _ _ _ _ _ _ _ _ _ _ _ w'
 rintro ⟨k,hk,rfl,hrel,hI⟩
 refine bH ?_
 refine aL (fun hki=>?_) (fun hki=>?_)
 ·have hk1:k<xs.length:=by omega
  have hk2:k<ys.length:=by omega
  have hstep:eqL (xs.drop k) (ys.drop k)=(eqT xs[k] ys[k] && eqL (xs.drop (k+1)) (ys.drop (k+1))):=by
   rw [cU hk1,cU hk2,eqL]
  refine cL hI h ag ad hk1 (fun _ _=>RdT.length) fun cs hcs=>?_
  have hlc:=hcs.length
  refine aT hI aZ fun b8 w' hI=>?_
  refine aC hI 0 rfl ad (by simpa using hlc) rfl (by simpa using hcs.one) fun w' hI=>?_
  refine cL hI h' ag ad hk2 (fun _ _=>RdT.length) fun ds hds=>?_
  have hld:=hds.length
  refine aT hI aZ fun b9 w' hI=>?_
  refine aC hI 1 rfl ad (by simpa using hld) rfl (by simpa using hds.one) fun w' hI=>?_
  refine av hI 0 ad rfl (by simpa using hlc) ?_
  refine av hI 1 ad rfl (by simpa using hld) ?_
  refine Run.callPure iH iL hI (ih _ (bz hk1) _ S _ _ hcs hds) fun w' hI=>?_
  refine bQ ?_
  refine aw (fun hne=>?_) (fun he'=>?_)
  ·exact done hI (by rw [<- hrel,hstep]; simp at hne; rw [hne]; rfl)
  ·refine bp (by omega) ?_
   refine ⟨⟨k+1,hk1,rfl,?_,hI.nil⟩,by simp [intOf]; omega⟩
   rw [<- hrel,hstep]
   simp at he'
   rw [he',dg]
 ·have:k=xs.length:=by omega
  subst this
  refine done hI ?_
  rw [<- hrel,dO,he,dO]
  rfl
theorem ig:∀ (t u:T) (S:ae) (cs ds:List Value),RdT S cs t->RdT S ds u->Pure Tryz.prog lS [.agg cs.toArray,.agg ds.toArray] S (.bool (eqT t u)):=by
 refine T.ind fun k n s ks ih u S cs ds h h'=>?_
 intro w hI
 obtain ⟨kv,rfl,_,_,_,hks⟩:=RdT.iff.1 h
 obtain ⟨kv',rfl,_,_,_,hks'⟩:=RdT.iff.1 h'
 obtain ⟨k',n',s',ks'⟩:=u
 simp only [T.name,T.kids,T.kind,T.n] at hks hks' ⊢
 refine wI.2 ?_
 dsimp only[wI,aY]
 refine bq hI fun b1 w' hI=>?_
 refine bq hI fun b2 w' hI=>?_
 refine af hI 0 rfl aR aG rfl ?_
 refine af hI 1 rfl aR aG rfl ?_
 refine bl ?_
 by_cases e1:k=k'
 ·rw [aI e1]
  refine rpG ?_
  refine af hI 0 rfl bf aG rfl ?_
  refine af hI 1 rfl bf aG rfl ?_
  refine bl ?_
  by_cases e2:n=n'
  ·rw [aI e2]
   refine rpG ?_
   refine af hI 0 rfl bb aU rfl ?_
   refine af hI 1 rfl bb aU rfl ?_
   refine bS ?_
   by_cases e3:s=s'
   ·rw [aI e3]
    refine rpG ?_
    refine af hI 0 rfl ao aj rfl ?_
    refine af hI 1 rfl ao aj rfl ?_
    refine Run.callPure vk vg hI (NA ih hks hks') fun w' hI=>?_
    refine rpG ?_
    exact done hI (by rw [eqT,aI e1,aI e2,aI e3]; rfl)
   ·rw [aP e3]
    refine rpG ?_
    exact done hI (by rw [eqT,aI e1,aI e2,aP e3]; rfl)
  ·rw [aP e2]
   refine rpG ?_
   exact done hI (by rw [eqT,aI e1,aP e2]; rfl)
 ·rw [aP e1]
  refine rpG ?_
  exact done hI (by rw [eqT,aP e1]; rfl)
end
section
open Go Go.RowKit

theorem uN {n:Int}:∀ (l:List MapEntry) (i:Nat),(∀ e∈l,∃ m,e.key=.int .i64 m)->
  (∃ j,∃ e∈l,e.key=.int .i64 n/\Instr.findNow (.int .i64) (.int .i64 n) l i=some (some (j,e.val))) ∨ ((∀ e∈l,e.key≠.int .i64 n)/\Instr.findNow (.int .i64) (.int .i64 n) l i=some none)
 | [],i,_=>.inr ⟨by simp,rfl⟩
 | e::l,i,h=>by
  obtain ⟨m,hm⟩:=h e (aS ..)
  have hs:Instr.sameNow (.int .i64) (.int .i64 n) e.key=some (n == m):=by rw [hm]; rfl
  by_cases hnm:n=m
  ·refine .inl ⟨i,e,aS ..,by rw [hm,hnm],?_⟩
   have:(n == m)=true:=by simpa using hnm
   rw [Instr.findNow,hs,this]
  ·have h2:(n == m)=false:=by simpa using hnm
   rcases uN l (i+1) (fun e he=>h e (aV _ he)) with ⟨j,e',he',hk,hf⟩|⟨hk,hf⟩
   ·exact .inl ⟨j,e',aV _ he',hk,by rw [Instr.findNow,hs,h2]; exact hf⟩
   ·refine .inr ⟨fun x hx=>?_,by rw [Instr.findNow,hs,h2]; exact hf⟩
    rcases bN.1 hx with rfl|hx
    ·rw [hm]
     intro e'
     simp only [Value.int.injEq,xO] at e'
     exact hnm e'.symm
    ·exact hk x hx
section
variable {P:Program} {w w0:World} {X:List Nat} {L:List Item} {S:ae} {K:Value->World->Prop}
attribute [local irreducible] Run CondV az aO
theorem fF {kt:TypeId} {d:TypeDesc} {k:Value} {l:List MapEntry} {a:Option (Nat × Value)} (hd:P.underlying kt=some d) (h:Instr.findNow d k l 0=some a):(Instr.findKey kt k l).run P w=.ok a w:=by
 simp [Instr.findKey,run_underlying hd,Result.andThen,h]
theorem u4 (h:Inv w0 X L S w) {T ty:TypeId} (hk:∀ b w',Inv w0 X (L++[.blk b (.map #[] 0)]) S w'->K (.map (some b)) w'):Run P (sOp (.makeMap T none) ty) w K:=by
 refine Run.of (v:=.map (some w.heap.size)) (w':={ w with heap:=w.heap.push (.map #[] 0) }) ?_ (hk _ _ (h.alloc _))
 simp [sOp,execOp,Instr.makeMap,newObj,Sem.run]
theorem Qq (h:Inv w0 X L S w) {T kt et ty:TypeId} {b clock:Nat} {es:Array MapEntry} {n:Int} {z v:Value} {ok:Bool} (i:Nat) (hT:P.underlying T=some (.map kt et)) (hkt:P.underlying kt=some (.int .i64))
  (hz:fL P et=some z) (hi:L[i]?=some (.blk b (.map es clock)))
  (hf:(∃ j,Instr.findNow (.int .i64) (.int .i64 n) es.toList 0=some (some (j,v))/\ok=true) ∨ (Instr.findNow (.int .i64) (.int .i64 n) es.toList 0=some none/\v=z/\ok=false))
  (hk:K (.tuple #[v,.bool ok]) w):Run P (sOp (.lookup T (.const (.map (some b))) (.const (.int .i64 n)) true) ty) w K:=by
 have hb:w.heap[b]?=some (.map es clock):=h.its _ (cz hi)
 have hck:∀ e,(Instr.checkKey e 10000 kt (.int .i64 n)).run P w=.ok () w:=fun e=>by
  rw [show (10000:Nat)=9999+1 from rfl,Instr.checkKey]
  simp [run_underlying hkt]
 obtain ⟨inf,hi1,hi2⟩:∃ inf,P.info? et=some inf/\inf.zero=some z:=by
  unfold fL at hz
  cases hinf:P.info? et with
  | none=>rw [hinf] at hz; simp at hz
  | some inf=>rw [hinf] at hz; exact ⟨inf,rfl,by simpa using hz⟩
 have hzv:(zeroValue et).run P w=.ok z w:=by simp [zeroValue,typeInfo,hi1,hi2]
 refine Run.of ?_ hk
 have hg:(getObj b).run P w=.ok (.map es clock) w:=by simp [getObj,Sem.run,hb]
 rcases hf with ⟨j,hf,rfl⟩|⟨hf,rfl,rfl⟩
 ·have hfk:=fF (P:=P) (w:=w) hkt hf
  simp [sOp,execOp,ev0,evE,Instr.lookup,run_underlying hT,hg,hck,hfk]
 ·have hfk:=fF (P:=P) (w:=w) hkt hf
  simp [sOp,execOp,ev0,evE,Instr.lookup,run_underlying hT,hg,hck,hfk,hzv]
theorem GY (h:Inv w0 X L S w) {T kt et ty:TypeId} {b clock:Nat} {es:Array MapEntry} {n:Int} {v:Value} (i:Nat) (hT:P.underlying T=some (.map kt et)) (hkt:P.underlying kt=some (.int .i64))
  (hi:L[i]?=some (.blk b (.map es clock))) (hf:Instr.findNow (.int .i64) (.int .i64 n) es.toList 0=some none)
  (hk:∀ w',Inv w0 X (L.set i (.blk b (.map (es.push { key:=.int .i64 n,val:=v,born:=clock }) (clock+1)))) S w'->K undef w') :
  Run P (sOp (.mapUpdate T (.const (.map (some b))) (.const (.int .i64 n)) (.const v)) ty) w K:=by
 have hb:w.heap[b]?=some (.map es clock):=h.its _ (cz hi)
 have hck:∀ e,(Instr.checkKey e 10000 kt (.int .i64 n)).run P w=.ok () w:=fun e=>by
  rw [show (10000:Nat)=9999+1 from rfl,Instr.checkKey]
  simp [run_underlying hkt]
 have hg:(getObj b).run P w=.ok (.map es clock) w:=by simp [getObj,Sem.run,hb]
 have hfk:=fF (P:=P) (w:=w) hkt hf
 refine Run.ofSkip (w':={ w with heap:=w.heap.setIfInBounds b (.map (es.push { key:=.int .i64 n,val:=v,born:=clock }) (clock+1)) }) ?_ (hk _ (h.setBlk hi _ rfl))
 have hst:(setObj b (.map (es.push { key:=.int .i64 n,val:=v,born:=clock }) (clock+1))).run P w=.ok () { w with heap:=w.heap.setIfInBounds b (.map (es.push { key:=.int .i64 n,val:=v,born:=clock }) (clock+1)) }:=by simp [setObj,Sem.run,hb]
 simp [sOp,execOp,ev0,evE,Instr.mapUpdate,run_underlying hT,hg,hck,hfk,hst]
end
end
section
open Go Go.RowKit

abbrev al:=List (Option T)
mutual
def bt:T->T->al->Bool × al
 | .mk k n s ks,u,st=>if k=1 then (match st[n.toNat]? with
   | some (some t)=>(eqT t u,st)
   | _=>(true,st.set n.toNat (some u)))
  else if lr (.mk k n s ks) u=true then fe ks u.kids st else (false,st)
def fe:List T->List T->al->Bool × al
 | [],_,st=>(true,st)
 | _::_,[],st=>(true,st)
 | t::ts,u::us,st=>if (bt t u st).1=true then fe ts us (bt t u st).2 else (false,(bt t u st).2)
end
theorem CU (ts us:List T) (st:al) (j:Nat) (h:j<ts.length) (h':j<us.length) :
  fe (ts.drop j) (us.drop j) st=if (bt ts[j] us[j] st).1=true then fe (ts.drop (j+1)) (us.drop (j+1)) (bt ts[j] us[j] st).2 else (false,(bt ts[j] us[j] st).2):=by
 rw [cU h,cU h',fe]
mutual
def okV:T->Prop
 | .mk k n _ ks=>(k=1->0<=n/\n<=25)/\s8 ks
def s8:List T->Prop
 | []=>True
 | t::ts=>okV t/\s8 ts
end
theorem me:∀ {ts:List T},s8 ts->∀ t∈ts,okV t
 | _::_,h,t,ht=>by
  rcases bN.1 ht with rfl|ht
  ·exact h.1
  ·exact me h.2 t ht
mutual
def okK:T->Prop
 | .mk k _ _ ks=>k≠0/\zZ ks
def zZ:List T->Prop
 | []=>True
 | t::ts=>okK t/\zZ ts
end
theorem tu:∀ {ts:List T},zZ ts->∀ t∈ts,okK t
 | _::_,h,t,ht=>by
  rcases bN.1 ht with rfl|ht
  ·exact h.1
  ·exact tu h.2 t ht
theorem Fl {t:T} (h:ed t=true):(t.kind=1->0<=t.n/\t.n<=25)/\t.kind≠0:=by
 unfold ed at h
 refine ⟨fun hk=>?_,fun hk=>?_⟩
 ·rw [ai hk] at h
  simp only [bu,bk] at h
  exact ⟨h.1,h.2.1⟩
 ·rw [ah (by omega),ah (by omega),ah (by omega)] at h
  cases h
mutual
theorem NR:∀ (t:T) (d:Int),dV t d=true->okV t/\okK t
 | .mk k n s ks,d,h=>by
  rw [dV] at h
  split at h
  ·cases h
  ·simp only [bu] at h
   obtain ⟨h1,h2⟩:=h
   obtain ⟨h3,h4⟩:=JY ks (d - 1) h2
   rw [okV,okK]
   obtain ⟨h5,h6⟩:=Fl h1
   exact ⟨⟨h5,h3⟩,⟨h6,h4⟩⟩
theorem JY:∀ (ts:List T) (d:Int),dJ ts d=true->s8 ts/\zZ ts
 | [],d,h=>by simp [s8,zZ]
 | t::ts,d,h=>by
  rw [dJ,bu] at h
  obtain ⟨h1,h2⟩:=NR t d h.1
  obtain ⟨h3,h4⟩:=JY ts d h.2
  rw [s8,zZ]
  exact ⟨⟨h1,h3⟩,⟨h2,h4⟩⟩
end
theorem p9 {t:T} (h:dt t=true):okV t/\okK t:=by
 rw [dt,bu] at h
 exact NR t 30 h.1
def xA (st:al):Prop:=st.length=26/\∀ t,some t∈st->okK t
theorem Wf {st:al} {n:Nat} {u:T} (h:xA st) (hu:okK u):xA (st.set n (some u)):=by
 refine ⟨by rw [nZ]; exact h.1,fun t ht=>?_⟩
 rcases sC ht with ht|ht
 ·exact h.2 t ht
 ·simp only [bg] at ht
  rw [ht]; exact hu
mutual
theorem pL:∀ (t u:T) (st:al),xA st->okK u->xA (bt t u st).2
 | .mk k n s ks,u,st,h,hu=>by
  rw [bt]
  split
  ·split
   ·exact h
   ·exact Wf h hu
  ·split
   ·obtain ⟨k',n',s',ks'⟩:=u
    rw [okK] at hu
    exact Lk ks ks' st h hu.2
   ·exact h
theorem Lk:∀ (ts us:List T) (st:al),xA st->zZ us->xA (fe ts us st).2
 | [],_,st,h,_=>by rw [fe]; exact h
 | _::_,[],st,h,_=>by rw [fe]; exact h
 | t::ts,u::us,st,h,hu=>by
  rw [fe]
  rw [zZ] at hu
  split
  ·exact Lk ts us _ (pL t u st h hu.1) hu.2
  ·exact pL t u st h hu.1
end
def nL:List Value:=[.int .i64 0,.int .i64 0,.string ⟨#[]⟩,.slice none 0 0]
def KnownC (S:ae) (c:Array Value) (st:al):Prop:=104<=c.size/\∀ i (h:i<st.length),(st[i]=none->aX c (i * 4) 4=nL)/\(∀ t,st[i]=some t->RdT S (aX c (i * 4) 4) t)
theorem KnownC.set {S:ae} {c:Array Value} {st:al} (h:KnownC S c st) {n:Nat} (hn:n<26) {cs:List Value} {u:T} (hu:RdT S cs u):KnownC S (bn c (n * 4) cs) (st.set n (some u)):=by
 have hlc:=hu.length
 have h1:=h.1
 have hs:104<=(bn c (n * 4) cs).size:=by rw [fM _ _ _ (by omega)]; exact h1
 refine ⟨hs,fun i hi=>?_⟩
 rw [nZ] at hi
 by_cases e:n=i
 ·subst e
  rw [Qp]
  refine ⟨fun h=>(by cases h),fun t ht=>?_⟩
  simp only [bg] at ht
  subst ht
  have:=kq (c:=c) (o:=n * 4) (vs:=cs) (by omega)
  rw [hlc] at this
  rw [this]
  exact hu
 ·rw [T0 e,mQ (by omega) (by omega)]
  exact h.2 i hi
section
attribute [local irreducible] Run CondV az aO
abbrev kvn (kb kp:Nat):Value:=.slice (some ⟨kb,0,none⟩) 26 kp
abbrev kv0 (kb:Nat):Value:=kvn kb 26
theorem IX (kp:Nat):∀ (t u:T) (S:ae) (cs ds:List Value) (kb:Nat) (kc:Array Value) (st:al),RdT S cs t->RdT S ds u->okV t->okK u->xA st->KnownC S kc st->
  Tri Tryz.prog Oq [.agg cs.toArray,.agg ds.toArray,kvn kb kp] [.blk kb (.cells kc ab)] S fun r I' S'=>S'=S/\r=.bool (bt t u st).1/\∃ kc',I'=[.blk kb (.cells kc' ab)]/\KnownC S kc' (bt t u st).2:=by
 refine T.ind fun k n s ks ih u S cs ds kb kc st h h' hv hu hst hkc=>?_
 intro w hI
 have hds:=h'
 obtain ⟨kv,rfl,_,_,_,hks⟩:=RdT.iff.1 h
 obtain ⟨kv',rfl,_,_,_,hks'⟩:=RdT.iff.1 h'
 obtain ⟨k',n',s',ks'⟩:=u
 simp only [T.name,T.kids,T.kind,T.n] at hks hks' ⊢
 have hlen:=hks.le
 simp only [maxLen] at hlen
 rw [okV] at hv
 obtain ⟨hv1,hv2⟩:=hv
 have huk:=hu
 rw [okK] at hu
 obtain ⟨X,hX⟩:∃ X,X=bE [Item.blk kb (.cells kc ab)]:=⟨_,rfl⟩
 rw [<- hX] at hI ⊢
 refine zA.2 ?_
 dsimp only[zA,dN]
 refine bq hI fun b1 w' hI=>?_
 refine bq hI fun b2 w' hI=>?_
 have hI:Inv w X [.blk b1 (.cells #[.int .i64 k,.int .i64 n,.string s,kv] ab),.blk b2 (.cells #[.int .i64 k',.int .i64 n',.string s',kv'] ab),.blk kb (.cells kc ab)] S w':=hI.perm (by
  refine (cu (l₁:=[_,_]) (l₂:=[_])).trans ?_
  exact List.Perm.refl _)
 refine af hI 0 rfl aR aG rfl ?_
 refine bl ?_
 refine aL (fun hk1=>?_) (fun hk1=>?_)
 ·obtain ⟨hn0,hn25⟩:=hv1 hk1
  obtain ⟨j,rfl⟩:∃ j:Nat,n=j:=⟨n.toNat,by omega⟩
  have hj:j<26:=by omega
  have hjs:j<st.length:=by rw [hst.1]; exact hj
  refine af hI 0 rfl bf aG rfl ?_
  refine aE ag hj ?_
  refine au aR ?_
  rw [cq,wV]
  obtain ⟨hno,hso⟩:=hkc.2 j hjs
  cases hst2:st[j] with
  | none=>
   have hcell:=hno hst2
   refine aN hI 2 aG rfl (by have:=aH hcell 0 _ rfl; exact this) ?_
   refine ef ?_
   refine aw (fun hb=>by simp at hb) (fun _=>?_)
   refine af hI 0 rfl bf aG rfl ?_
   refine av hI 1 ad rfl rfl ?_
   refine aE ag hj ?_
   rw [cq]
   refine PU hI 2 rfl ad rfl (by have:=hkc.1; exact Nat.ble_eq_true_of_le (by omega)) hds.one fun w' hI=>?_
   have hm:bt (.mk k j s ks) (.mk k' n' s' ks') st=(true,st.set j (some (.mk k' n' s' ks'))):=by
    rw [bt,ai hk1,dv,gL hjs,hst2]
   rw [hm]
   exact ⟨_,_,_,rfl,hI.pick [false,false,true],Ext.refl _ _ _,rfl,rfl,_,rfl,hkc.set hj hds⟩
  | some t0=>
   have hR:=hso t0 hst2
   have hk0:t0.kind≠0:=by
    have:=hst.2 t0 (by rw [<- hst2]; exact bz hjs)
    obtain ⟨a,b,c,d⟩:=t0
    rw [okK] at this
    exact this.1
   obtain ⟨kv0',hcell,_,_,_,_⟩:=RdT.iff.1 hR
   refine aN hI 2 aG rfl (by have:=aH hcell 0 _ rfl; exact this) ?_
   refine ef ?_
   rw [aP hk0]
   refine aw (fun _=>?_) (fun hb=>by cases hb)
   refine ⟨fun D x6 lK tx uK sj oU lp rT w_=>Fx D 0 [rT=kvn kb kp,lp=.pointer (some ⟨b1,1,none⟩),oU=.int .i64 j,sj=.pointer (some ⟨kb,j * 4,none⟩),uK=.agg (aX kc (j * 4) 4).toArray,tx=.agg #[.int .i64 k',.int .i64 n',.string s',kv'],lK=.bool (eqT t0 (.mk k' n' s' ks')),x6=.bool (eqT t0 (.mk k' n' s' ks'))]/\Inv w X [.blk b1 (.cells #[.int .i64 k,.int .i64 (j:Int),.string s,kv] ab),.blk b2 (.cells #[.int .i64 k',.int .i64 n',.string s',kv'] ab),.blk kb (.cells kc ab)] S w_,⟨Fx.nil _ _,hI.draw⟩,⟨?_,?_,?_,?_,?_,?_,?_,?_,trivial⟩,?_⟩
   all_goals (intro D bF; intros; rename_i x6 lK tx uK sj oU lp rT w_ hA_; have hF_:=hA_.1; obtain ⟨⟨cj,ci,bR,ce,bP,bY,bZ,cH,_⟩,hI⟩:=hA_)
   ·exact ⟨hF_.set 0 rfl,hI⟩
   ·refine au bf ?_
    exact ⟨hF_.set 1 rfl,hI⟩
   ·obtain rfl:=ci ‹_›
    refine aN hI 0 aG rfl rfl ?_
    exact ⟨hF_.set 2 rfl,hI⟩
   ·obtain rfl:=cj ‹_›
    obtain rfl:=bR ‹_›
    refine aE ag hj ?_; rw [cq]
    exact ⟨hF_.set 3 rfl,hI⟩
   ·obtain rfl:=ce ‹_›
    refine di hI 2 (aX kc (j * 4) 4) ad rfl hR.length (fun i v hi=>aH rfl i v hi) ?_
    exact ⟨hF_.set 4 rfl,hI⟩
   ·refine av hI 1 ad rfl rfl ?_
    exact ⟨hF_.set 5 rfl,hI⟩
   ·obtain rfl:=bP ‹_›
    obtain rfl:=bY ‹_›
    refine Run.callPure oN oL hI (qn t0 _ S _ _ hR hds) fun w_ hI=>?_
    exact ⟨hF_.set 6 rfl,hI⟩
   ·obtain rfl:=bZ ‹_›
    exact ⟨hF_.set 7 rfl,hI⟩
   obtain ⟨rfl,rfl,rfl,rfl,rfl,rfl,rfl,rfl,_⟩:=hF_.all
   clear hF_ cj ci bR ce bP bY bZ cH
   have hm:bt (.mk k j s ks) (.mk k' n' s' ks') st=(eqT t0 (.mk k' n' s' ks'),st):=by
    rw [bt,ai hk1,dv,gL hjs,hst2]
   rw [hm]
   exact ⟨_,_,_,rfl,hI.pick [false,false,true],Ext.refl _ _ _,rfl,rfl,_,rfl,hkc⟩
 refine ⟨fun q w'=>q=.bool (!lr (.mk k n s ks) (.mk k' n' s' ks'))/\Inv w X [.blk b1 (.cells #[.int .i64 k,.int .i64 n,.string s,kv] ab),.blk b2 (.cells #[.int .i64 k',.int .i64 n',.string s',kv'] ab),.blk kb (.cells kc ab)] S w',?_,?_⟩
 ·refine af hI 0 rfl aR aG rfl ?_
  refine af hI 1 rfl aR aG rfl ?_
  refine ef ?_
  by_cases e1:k=k'
  ·rw [aI e1]
   refine rpG ?_
   refine af hI 0 rfl bf aG rfl ?_
   refine af hI 1 rfl bf aG rfl ?_
   refine ef ?_
   by_cases e2:n=n'
   ·rw [aI e2]
    refine rpG ?_
    refine af hI 0 rfl bb aU rfl ?_
    refine af hI 1 rfl bb aU rfl ?_
    refine xW ?_
    by_cases e3:s=s'
    ·rw [aI e3]
     refine rpG ?_
     refine af hI 0 rfl ao aj rfl ?_
     refine aF hks ag ?_
     refine af hI 1 rfl ao aj rfl ?_
     refine aF hks' ag ?_
     refine ef ?_
     refine rpG ?_
     exact ⟨by rw [eG,aI e1,aI e2,aI e3,Uy]; rfl,hI⟩
    ·rw [aP e3]
     refine rpG ?_
     exact ⟨by rw [eG,aI e1,aI e2,aP e3]; rfl,hI⟩
   ·rw [aP e2]
    refine rpG ?_
    exact ⟨by rw [eG,aI e1,aP e2]; rfl,hI⟩
  ·rw [aP e1]
   refine rpG ?_
   exact ⟨by rw [eG,aP e1]; rfl,hI⟩

 intro q _ _ _ _ _ _ _ _ _ _ _ _ _ _ _ _ _ _ _ _ _ _ _ _ _ _ _ w'
 rintro ⟨rfl,hI⟩
 cases hd:lr (.mk k n s ks) (.mk k' n' s' ks')
 ·refine aw (fun _=>?_) (fun hb=>by cases hb)
  have hm:bt (.mk k n s ks) (.mk k' n' s' ks') st=(false,st):=by rw [bt,ah hk1,ah (by rw [hd]; decide)]
  rw [hm]
  exact ⟨_,_,_,rfl,hI.pick [false,false,true],Ext.refl _ _ _,rfl,rfl,_,rfl,hkc⟩
 refine aw (fun hb=>by cases hb) (fun _=>?_)
 have hle:ks.length=ks'.length:=by
  rw [eG] at hd
  simp only [bu,bk] at hd
  exact hd.2.2.2
 have hm:bt (.mk k n s ks) (.mk k' n' s' ks') st=fe ks ks' st:=by rw [bt,ah hk1,ai hd]; rfl
 rw [hm]
 have hu2:=hu.2
 refine ⟨fun i w'=>∃ (j:Nat) (st':al) (kc':Array Value),j<=ks.length/\i=.int .i64 j/\fe (ks.drop j) (ks'.drop j) st'=fe ks ks' st/\xA st'/\KnownC S kc' st'/\Inv w X [.blk b1 (.cells #[.int .i64 k,.int .i64 n,.string s,kv] ab),.blk b2 (.cells #[.int .i64 k',.int .i64 n',.string s',kv'] ab),.blk kb (.cells kc' ab)] S w',fun i _=>ks.length - (intOf i).toNat,⟨0,st,kc,be _,rfl,rfl,hst,hkc,hI⟩,?_⟩
 intro t5 _ _ _ _ _ _ _ _ _ _ _ _ _ _ _ _ _ _ _ _ _ w'
 rintro ⟨j,st',kc',hj,rfl,hrel,hst',hkc',hI⟩
 refine af hI 0 rfl ao aj rfl ?_
 refine aF hks ag ?_
 refine bH ?_
 refine aL (fun hji=>?_) (fun hji=>?_)
 ·have hj1:j<ks.length:=by omega
  have hj2:j<ks'.length:=by omega
  obtain ⟨c1,o1,cap1,a1,E1,fz1,rfl,hS1,hR1⟩:=hks.at_ hj1
  obtain ⟨c2,o2,cap2,a2,E2,fz2,rfl,hS2,hR2⟩:=hks'.at_ hj2
  rw [CU ks ks' st' j hj1 hj2] at hrel
  have hcall:=ih _ (bz hj1) ks'[j] S _ _ kb kc' st' hR1 hR2 (me hv2 _ (bz hj1)) (tu hu2 _ (bz hj2)) hst' hkc'
  have hsn:=pL ks[j] ks'[j] st' hst' (tu hu2 _ (bz hj2))
  generalize hr:bt ks[j] ks'[j] st'=r at hrel hcall hsn
  refine ⟨fun D FL TJ Tk T8 T6 UE O1 NG Rk XO WI UG G1 w_=>Fx D 0 [G1=.pointer (some ⟨b1,3,none⟩),UG=.slice (some ⟨c1,o1,none⟩) ks.length cap1,WI=.int .i64 j,XO=.pointer (some ⟨c1,o1+j * 4,none⟩),Rk=.agg (aX a1 (o1+j * 4) 4).toArray,NG=.pointer (some ⟨b2,3,none⟩),O1=.slice (some ⟨c2,o2,none⟩) ks'.length cap2,UE=.int .i64 j,T6=.pointer (some ⟨c2,o2+j * 4,none⟩),T8=.agg (aX a2 (o2+j * 4) 4).toArray,Tk=kvn kb kp,TJ=.bool r.1,FL=.bool (!r.1)]/\(D 11=false->Inv w X [.blk b1 (.cells #[.int .i64 k,.int .i64 n,.string s,.slice (some ⟨c1,o1,none⟩) ks.length cap1] ab),.blk b2 (.cells #[.int .i64 k',.int .i64 n',.string s',.slice (some ⟨c2,o2,none⟩) ks'.length cap2] ab),.blk kb (.cells kc' ab)] S w_)/\(D 11=true->∃ kc2,KnownC S kc2 r.2/\Inv w X [.blk b1 (.cells #[.int .i64 k,.int .i64 n,.string s,.slice (some ⟨c1,o1,none⟩) ks.length cap1] ab),.blk b2 (.cells #[.int .i64 k',.int .i64 n',.string s',.slice (some ⟨c2,o2,none⟩) ks'.length cap2] ab),.blk kb (.cells kc2 ab)] S w_)/\∃ kc3,Inv w X [.blk b1 (.cells #[.int .i64 k,.int .i64 n,.string s,.slice (some ⟨c1,o1,none⟩) ks.length cap1] ab),.blk b2 (.cells #[.int .i64 k',.int .i64 n',.string s',.slice (some ⟨c2,o2,none⟩) ks'.length cap2] ab),.blk kb (.cells kc3 ab)] S w_,⟨Fx.nil _ _,⟨fun _=>hI.draw,aQ,kc',hI.draw⟩⟩,⟨?_,?_,?_,?_,?_,?_,?_,?_,?_,?_,?_,?_,?_,trivial⟩,?_⟩
  all_goals (intro D bF; intros; rename_i FL TJ Tk T8 T6 UE O1 NG Rk XO WI UG G1 w_ hA_; have hF_:=hA_.1; obtain ⟨⟨cj,ci,bR,ce,bP,bY,bZ,cH,c5,dI,bX,cr,cZ,_⟩,⟨hI0,hI1,kc3,hI⟩⟩:=hA_)
  ·refine au ao ?_
   exact ⟨hF_.set 0 rfl,⟨hI0,hI1,kc3,hI⟩⟩
  ·obtain rfl:=cj ‹_›
   refine aN hI 0 aj rfl rfl ?_
   exact ⟨hF_.set 1 rfl,⟨hI0,hI1,kc3,hI⟩⟩
  ·exact ⟨hF_.set 2 rfl,⟨hI0,hI1,kc3,hI⟩⟩
  ·obtain rfl:=ci ‹_›
   obtain rfl:=bR ‹_›
   refine aE ag hj1 ?_
   exact ⟨hF_.set 3 rfl,⟨hI0,hI1,kc3,hI⟩⟩
  ·obtain rfl:=ce ‹_›
   refine bL ad hR1.length (fun j v hj=>by rw [hI.cellS hS1]; exact aH rfl j v hj) ?_
   exact ⟨hF_.set 4 rfl,⟨hI0,hI1,kc3,hI⟩⟩
  ·refine au ao ?_
   exact ⟨hF_.set 5 rfl,⟨hI0,hI1,kc3,hI⟩⟩
  ·obtain rfl:=bY ‹_›
   refine aN hI 1 aj rfl rfl ?_
   exact ⟨hF_.set 6 rfl,⟨hI0,hI1,kc3,hI⟩⟩
  ·exact ⟨hF_.set 7 rfl,⟨hI0,hI1,kc3,hI⟩⟩
  ·obtain rfl:=bZ ‹_›
   obtain rfl:=cH ‹_›
   refine aE ag hj2 ?_
   exact ⟨hF_.set 8 rfl,⟨hI0,hI1,kc3,hI⟩⟩
  ·obtain rfl:=c5 ‹_›
   refine bL ad hR2.length (fun j v hj=>by rw [hI.cellS hS2]; exact aH rfl j v hj) ?_
   exact ⟨hF_.set 9 rfl,⟨hI0,hI1,kc3,hI⟩⟩
  ·exact ⟨hF_.set 10 rfl,⟨hI0,hI1,kc3,hI⟩⟩
  ·obtain rfl:=bP ‹_›
   obtain rfl:=dI ‹_›
   obtain rfl:=bX ‹_›
   refine Run.call (A:=[_,_]) yT zX (hI0 bF) hcall fun v' I' S w_=>?_
   rintro ⟨rfl,rfl,kc2,rfl,hk2⟩ _ hI
   have hI0:=fun (h:aD D 11 11=false)=>(Bool.noConfusion h:Inv w X [.blk b1 (.cells #[.int .i64 k,.int .i64 n,.string s,.slice (some ⟨c1,o1,none⟩) ks.length cap1] ab),.blk b2 (.cells #[.int .i64 k',.int .i64 n',.string s',.slice (some ⟨c2,o2,none⟩) ks'.length cap2] ab),.blk kb (.cells kc' ab)] S w_)
   have hI1:=fun (_:aD D 11 11=true)=>(⟨kc2,hk2,hI⟩:∃ kc2,KnownC S kc2 r.2/\Inv w X [.blk b1 (.cells #[.int .i64 k,.int .i64 n,.string s,.slice (some ⟨c1,o1,none⟩) ks.length cap1] ab),.blk b2 (.cells #[.int .i64 k',.int .i64 n',.string s',.slice (some ⟨c2,o2,none⟩) ks'.length cap2] ab),.blk kb (.cells kc2 ab)] S w_)
   obtain ⟨kc3,hI⟩:∃ kc3,Inv w X [.blk b1 (.cells #[.int .i64 k,.int .i64 n,.string s,.slice (some ⟨c1,o1,none⟩) ks.length cap1] ab),.blk b2 (.cells #[.int .i64 k',.int .i64 n',.string s',.slice (some ⟨c2,o2,none⟩) ks'.length cap2] ab),.blk kb (.cells kc3 ab)] S w_:=⟨kc2,hI⟩
   exact ⟨hF_.set 11 rfl,⟨hI0,hI1,kc3,hI⟩⟩
  ·obtain rfl:=cr ‹_›
   refine bQ ?_
   exact ⟨hF_.set 12 rfl,⟨hI0,hI1,kc3,hI⟩⟩
  obtain ⟨rfl,rfl,rfl,rfl,rfl,rfl,rfl,rfl,rfl,rfl,rfl,rfl,rfl,_⟩:=hF_.all
  have np:D 11=true:=by assumption
  clear hF_ cj ci bR ce bP bY bZ cH c5 dI bX cr cZ
  obtain ⟨kc2,hk2,hI⟩:=hI1 np
  clear hI0 hI1
  refine aw (fun hne=>?_) (fun he'=>?_)
  ·simp only [jj] at hne
   rw [hne,ah (by decide)] at hrel
   rw [<- hrel]
   exact ⟨_,_,_,rfl,hI.pick [false,false,true],Ext.refl _ _ _,rfl,rfl,_,rfl,hk2⟩
  ·simp only [rK] at he'
   rw [he',ai rfl] at hrel
   refine bp (by omega) ?_
   exact ⟨⟨j+1,r.2,kc2,hj1,rfl,hrel,hsn,hk2,hI⟩,by simp [intOf]; omega⟩
 ·have:j=ks.length:=by omega
  subst this
  rw [dO,hle,dO] at hrel
  rw [<- hrel]
  exact ⟨_,_,_,rfl,hI.pick [false,false,true],Ext.refl _ _ _,rfl,rfl,_,rfl,hkc'⟩
end
end
section
open Go Go.RowKit

def Zw:List Int->Int->Int->Nat->Int
 | [],_,cur,_=>cur
 | x::xs,n,cur,k=>Zw xs n (if x=n then (k:Int) else cur) (k+1)
def Wi (vs:List Int) (n:Int):Int:=(co (σ:=Unit) (fun _ x=>(decide (n=x),())) () vs 0).1
mutual
def Uj (vs:List Int):T->T
 | .mk k n s ks=>.mk k (if k=1 then Zw vs n n 0 else n) s (GE vs ks)
def GE (vs:List Int):List T->List T
 | []=>[]
 | t::ts=>Uj vs t::GE vs ts
end
mutual
def pM (vs:List Int):T->T
 | .mk k n s ks=>if k=1 then .mk 1 (Wi vs n) ⟨#[]⟩ [] else .mk k n s (iK vs ks)
def iK (vs:List Int):List T->List T
 | []=>[]
 | t::ts=>pM vs t::iK vs ts
end
theorem XP (vs:List Int) (n:Int):-1<=Wi vs n/\Wi vs n<vs.length+1:=by
 have:∀ (xs:List Int) (k:Nat),-1<=(co (σ:=Unit) (fun _ x=>(decide (n=x),())) () xs k).1/\(co (σ:=Unit) (fun _ x=>(decide (n=x),())) () xs k).1<k+xs.length+1:=by
  intro xs
  induction xs with
  | nil=>intro k; simp [co]; omega
  | cons x xs ih=>
   intro k
   rw [co]
   have:=ih (k+1)
   split
   ·simp; omega
   ·simp only [bw]; omega
 have h:=this vs 0
 rw [Wi]
 omega
theorem XE (l:List Int) (n:Int):jL l n=true↔n∈l:=by
 simp [jL]
theorem XB {t:T} (h:ed t=true) (hk:t.kind=1):t.name=emptyB/\t.kids.length=0:=by
 unfold ed at h
 rw [ai hk] at h
 simp only [bu,bk] at h
 exact ⟨h.2.2.1,h.2.2.2⟩
theorem BK (vs:List Int):∀ ts:List T,(GE vs ts).length=ts.length
 | []=>rfl
 | t::ts=>by rw [GE]; simp [BK vs ts]
theorem l8 (vs:List Int):∀ ts:List T,(iK vs ts).length=ts.length
 | []=>rfl
 | t::ts=>by rw [iK]; simp [l8 vs ts]
theorem FF (vs:List Int) (ts:List T) (j:Nat) (h:j<ts.length):iK vs (ts.take (j+1))=iK vs (ts.take j)++[pM vs ts[j]]:=by
 have:∀ (xs ys:List T),iK vs (xs++ys)=iK vs xs++iK vs ys:=by
  intro xs ys
  induction xs with
  | nil=>rfl
  | cons x xs ih=>simp [iK,ih]
 rw [fl h,this]; rfl
def Y8 (vs:List Int) (c:C):C:=⟨Uj vs c.head,GE vs c.body⟩
def Zq (c:C):List Int:=ek (c.head::c.body) []
end
end Go.Proofs.YtgllldjiaglkcaaGreatDoor
