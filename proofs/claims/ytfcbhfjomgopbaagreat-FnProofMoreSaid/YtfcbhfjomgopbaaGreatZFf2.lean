/- spec.l4Copy, spec.l14Copy: clauses and programs copied. -/
import Derived.Test.YtfcbhfjomgopbaaGreatZFf1
import Derived.Test.YtfcbhfjomgopbaaGreatZFfF
import Derived.Test.YtfcbhfjomgopbaaGreatZFf0
namespace Go.Proofs.YtfcbhfjomgopbaaGreat
section
open Go Go.RowKit
section
attribute [local irreducible] Run CondV aB aS
theorem Ha {c0:C} {S:ae} {cs:List Value} (h:RdC S cs c0) (hw:wC c0<=1048576):Tri Tryz.prog CE [.agg cs.toArray] [] S (QS S c0):=by
 intro w hI
 obtain ⟨hd,ks,rfl,h1,h2⟩:=h
 have h1':=h1
 obtain ⟨kv,rfl,g1,g2,g3,g4⟩:=RdT.iff.1 h1
 unfold wC at hw
 refine lG.2 ?_
 dsimp only[lG,aO]
 refine be hI fun b1 w' hI=>?_
 refine aG hI dB fun b2 w' hI=>?_
 refine ai co ?_
 refine b0 hI 0 [.int .i64 c0.head.kind,.int .i64 c0.head.n,.string c0.head.name,kv] ac rfl rfl H2 ?_
 refine Run.call0 eo ei hI (eI _ S _ h1' (by omega)) fun v' I' S w'=>?_
 rintro ⟨rfl,cs1,N,rfl,rfl,hT1⟩ _ hI
 obtain ⟨kh,rfl,_⟩:=TrT.iff.1 hT1
 refine jz ?_
 refine aG hI dB fun b3 w' hI=>?_
 have hI:=hI.perm (M:=.blk b1 _::.blk b2 _::.blk b3 _::bq N) (((List.perm_append_comm (l₁:=[_])).cons _).cons _)
 refine ao hI 2 rfl bl rfl rfl ?_ fun w' hI=>?_
 ·intro u hu
  have hu':u∈([.int .i64 c0.head.kind,.int .i64 c0.head.n,.string c0.head.name,kh,.slice none 0 0]:List Value):=hu
  simp at hu'
  have o1:kh.oneCell'=true:=hT1.one kh (by simp)
  rcases hu' with rfl|rfl|rfl|rfl|rfl <;> first|rfl|exact o1
 have hI:=hI.rowNil ab 4
 have hI:=hI.perm (M:=.blk b1 (.cells #[.int .i64 c0.head.kind,.int .i64 c0.head.n,.string c0.head.name,kv,ks] av)::.blk b2 (.cells #[.int .i64 0,.int .i64 0,.string ⟨#[]⟩,.slice none 0 0,.slice none 0 0] av)::.blk b3 (.cells #[.int .i64 c0.head.kind,.int .i64 c0.head.n,.string c0.head.name,kh,.slice none 0 0] av)::aL (.slice none 0 0) ab 4 []::bq N) ((((List.perm_append_comm (l₁:=[_])).cons _).cons _).cons _)
 refine ⟨fun i w'=>∃ (j:Nat) (kvc:Value) (Ls:List bg) (css:List (List Value)),j<=c0.body.length/\i=.int .i64 j/\Grown 4 TrT Ls css (c0.body.take j)/\
   Inv w [] (.blk b1 (.cells #[.int .i64 c0.head.kind,.int .i64 c0.head.n,.string c0.head.name,kv,ks] av)::.blk b2 (.cells #[.int .i64 0,.int .i64 0,.string ⟨#[]⟩,.slice none 0 0,.slice none 0 0] av)::.blk b3 (.cells #[.int .i64 c0.head.kind,.int .i64 c0.head.n,.string c0.head.name,kh,kvc] av)::aL kvc ab 4 css::bq (N::Ls).flatten) S w',
  fun i _=>c0.body.length - (intOf i).toNat,⟨0,_,[],[],Nat.zero_le _,rfl,Grown.nil _ _,by simp only [List.flatten_cons,List.flatten_nil,List.append_nil]; exact hI⟩,?_⟩
 intro t4 _ _ _ _ _ _ _ _ _ _ _ _ _ _ _ _ _ _ w'
 rintro ⟨j,kvc,Ls,css,hj,rfl,hg,hI⟩
 refine ad hI 0 rfl bi ag rfl ?_
 refine aD h2 af ?_
 refine bA ?_
 refine aI (fun hji=>?_) (fun hji=>?_)
 ·have hj':j<c0.body.length:=by omega
  have hjl:(c0.body.take j).length=j:=by simp; omega
  have hcl:=hg.hc
  have hm:=List.getElem_mem hj'
  have hwm:=kH hm
  obtain ⟨b,o,cap,c,E,fz,rfl,hS,hR⟩:=h2.at_ hj'
  refine ⟨fun D nh hY mY pC oZ mD ki ml rR nT wD w_=>Fx D 0 [wD=.pointer (some ⟨b3,4,none⟩),nT=kvc,rR=.pointer (some ⟨b1,4,none⟩),ml=.slice (some ⟨b,o,none⟩) (c0.body).length cap,ki=.int .i64 j,mD=.pointer (some ⟨b,o+j * 4,none⟩),oZ=.agg (aH c (o+j * 4) 4).toArray,True,True,True,nh=.pointer (some ⟨b3,4,none⟩),True]/\∃ M cs7 b8,(D 7=true->pC=.agg cs7.toArray/\TrT M cs7 (c0.body)[j])/\(D 8=true->mY=.slice (some ⟨b8,0,none⟩) 1 1)/\(D 8=true->D 7=true)/\(D 9=true->D 8=true)/\(D 11=true->D 9=true)/\(D 11=true->D 1=true)/\Inv w [] (bh (.blk b1 (.cells #[.int .i64 c0.head.kind,.int .i64 c0.head.n,.string c0.head.name,kv,.slice (some ⟨b,o,none⟩) c0.body.length cap] av)) (.blk b2 (.cells #[.int .i64 0,.int .i64 0,.string ⟨#[]⟩,.slice none 0 0,.slice none 0 0] av)) (.blk b3 (.cells #[.int .i64 c0.head.kind,.int .i64 c0.head.n,.string c0.head.name,kh,kvc] av)) (.blk b3 (.cells #[.int .i64 c0.head.kind,.int .i64 c0.head.n,.string c0.head.name,kh,hY] av)) (aL kvc ab 4 css) (aL hY ab 4 (css++[cs7])) (bq (N::Ls).flatten) M (.blk b8 (.cells cs7.toArray ab)) (D 7) (D 8) (D 9) (D 11)) S w_,⟨Fx.nil _ _,⟨[],[],0,aU,aU,aU,aU,aU,aU,by simpa [bh,bq] using hI.draw⟩⟩,⟨?_,?_,?_,?_,?_,?_,?_,?_,?_,?_,?_,?_,trivial⟩,?_⟩
  all_goals (intro D bo; intros; rename_i nh hY mY pC oZ mD ki ml rR nT wD w_ hA_; have hF_:=hA_.1; obtain ⟨⟨bU,bV,bH,bR,bZ,bI,bB,ct,cF,cK,bG,bX,_⟩,⟨M,cs7,b8,e7,e8,k8,k9,k11,k1,hI⟩⟩:=hA_)
  ·refine ai bi ?_
   exact ⟨hF_.set 0 rfl,⟨M,cs7,b8,e7,e8,k8,k9,k11,k1,hI⟩⟩
  ·obtain rfl:=bU ‹_›
   have f11:D 11=false:=Bool.eq_false_iff.2 fun h=>by rw [k1 h] at bo; cases bo
   refine aA (b:=b3) hI 2 (c:=(#[.int .i64 c0.head.kind,.int .i64 c0.head.n,.string c0.head.name,kh,kvc])) ag (by rw [f11]; rfl) rfl ?_
   have k1:=fun (_:aF D 1 11=true)=>(rfl:aF D 1 1=true)
   exact ⟨hF_.set 1 rfl,⟨M,cs7,b8,e7,e8,k8,k9,k11,k1,hI⟩⟩
  ·refine ai bi ?_
   exact ⟨hF_.set 2 rfl,⟨M,cs7,b8,e7,e8,k8,k9,k11,k1,hI⟩⟩
  ·obtain rfl:=bH ‹_›
   refine aA hI 0 ag rfl rfl ?_
   exact ⟨hF_.set 3 rfl,⟨M,cs7,b8,e7,e8,k8,k9,k11,k1,hI⟩⟩
  ·exact ⟨hF_.set 4 rfl,⟨M,cs7,b8,e7,e8,k8,k9,k11,k1,hI⟩⟩
  ·obtain rfl:=bR ‹_›
   obtain rfl:=bZ ‹_›
   refine au af hj' ?_
   exact ⟨hF_.set 5 rfl,⟨M,cs7,b8,e7,e8,k8,k9,k11,k1,hI⟩⟩
  ·obtain rfl:=bI ‹_›
   refine bw ac hR.length (fun j v hj=>by rw [hI.cellS hS]; exact ar rfl j v hj) ?_
   exact ⟨hF_.set 6 rfl,⟨M,cs7,b8,e7,e8,k8,k9,k11,k1,hI⟩⟩
  ·obtain rfl:=bB ‹_›
   have f8:D 8=false:=Bool.eq_false_iff.2 fun h=>by rw [k8 h] at bo; cases bo
   have f9:D 9=false:=Bool.eq_false_iff.2 fun h=>by rw [k9 h] at f8; cases f8
   have f11:D 11=false:=Bool.eq_false_iff.2 fun h=>by rw [k11 h] at f9; cases f9
   rw [bo,f8,f9,f11] at hI
   refine Run.call0 eo ei hI (eI _ S _ hR (by omega)) fun v' I' S w_=>?_
   rintro ⟨rfl,cs7,M,rfl,rfl,hT⟩ _ hI
   have e7:aF D 7 7=true->Value.agg cs7.toArray=Value.agg cs7.toArray/\TrT M cs7 (c0.body)[j]:=fun _=>⟨rfl,hT⟩
   have k8:=fun (_:aF D 7 8=true)=>(rfl:aF D 7 7=true)
   have hI:Inv w [] (bh (.blk b1 (.cells #[.int .i64 c0.head.kind,.int .i64 c0.head.n,.string c0.head.name,kv,.slice (some ⟨b,o,none⟩) c0.body.length cap] av)) (.blk b2 (.cells #[.int .i64 0,.int .i64 0,.string ⟨#[]⟩,.slice none 0 0,.slice none 0 0] av)) (.blk b3 (.cells #[.int .i64 c0.head.kind,.int .i64 c0.head.n,.string c0.head.name,kh,kvc] av)) (.blk b3 (.cells #[.int .i64 c0.head.kind,.int .i64 c0.head.n,.string c0.head.name,kh,hY] av)) (aL kvc ab 4 css) (aL hY ab 4 (css++[cs7])) (bq (N::Ls).flatten) M (.blk b8 (.cells cs7.toArray ab)) true (D 8) (D 9) (D 11)) S w_:=by
    rw [f8,f9,f11]
    simpa [bh] using hI
   exact ⟨hF_.set 7 (by first|assumption|trivial),⟨M,cs7,b8,e7,e8,k8,k9,k11,k1,hI⟩⟩
  ·have zQ:=ct ‹_›
   have f9:D 9=false:=Bool.eq_false_iff.2 fun h=>by rw [k9 h] at bo; cases bo
   have f11:D 11=false:=Bool.eq_false_iff.2 fun h=>by rw [k11 h] at f9; cases f9
   obtain ⟨q7,hT⟩:=e7 ‹D 7=true›
   subst q7
   rw [‹D 7=true›,bo,f9,f11] at hI
   refine dQ hI bm (by simp [Value.cells,hT.length]) (by omega) (by omega) fun b8 w_ hI=>?_
   have e7:aF D 8 7=true->Value.agg cs7.toArray=Value.agg cs7.toArray/\TrT M cs7 (c0.body)[j]:=fun _=>⟨rfl,hT⟩
   have e8:=fun (_:aF D 8 8=true)=>(rfl:Value.slice (some ⟨b8,0,none⟩) 1 1=_)
   have k8:=fun (_:aF D 8 8=true)=>‹D 7=true›
   have k9:=fun (_:aF D 8 9=true)=>(rfl:aF D 8 8=true)
   have hI:Inv w [] (bh (.blk b1 (.cells #[.int .i64 c0.head.kind,.int .i64 c0.head.n,.string c0.head.name,kv,.slice (some ⟨b,o,none⟩) c0.body.length cap] av)) (.blk b2 (.cells #[.int .i64 0,.int .i64 0,.string ⟨#[]⟩,.slice none 0 0,.slice none 0 0] av)) (.blk b3 (.cells #[.int .i64 c0.head.kind,.int .i64 c0.head.n,.string c0.head.name,kh,kvc] av)) (.blk b3 (.cells #[.int .i64 c0.head.kind,.int .i64 c0.head.n,.string c0.head.name,kh,hY] av)) (aL kvc ab 4 css) (aL hY ab 4 (css++[cs7])) (bq (N::Ls).flatten) M (.blk b8 (.cells cs7.toArray ab)) (D 7) true (D 9) (D 11)) S w_:=by
    rw [‹D 7=true›,f9,f11]
    simpa [bh,Value.cells] using hI
   exact ⟨hF_.set 8 (by first|assumption|trivial),⟨M,cs7,b8,e7,e8,k8,k9,k11,k1,hI⟩⟩
  ·obtain rfl:=bV ‹_›
   have CJ:=cF ‹_›
   have f11:D 11=false:=Bool.eq_false_iff.2 fun h=>by rw [k11 h] at bo; cases bo
   have q8:=e8 ‹D 8=true›
   subst q8
   obtain ⟨_,hT⟩:=e7 ‹D 7=true›
   rw [‹D 7=true›,‹D 8=true›,bo,f11] at hI
   have hblk:((bh (.blk b1 (.cells #[.int .i64 c0.head.kind,.int .i64 c0.head.n,.string c0.head.name,kv,.slice (some ⟨b,o,none⟩) c0.body.length cap] av)) (.blk b2 (.cells #[.int .i64 0,.int .i64 0,.string ⟨#[]⟩,.slice none 0 0,.slice none 0 0] av)) (.blk b3 (.cells #[.int .i64 c0.head.kind,.int .i64 c0.head.n,.string c0.head.name,kh,nT] av)) (.blk b3 (.cells #[.int .i64 c0.head.kind,.int .i64 c0.head.n,.string c0.head.name,kh,hY] av)) (aL nT ab 4 css) (aL hY ab 4 (css++[cs7])) (bq (N::Ls).flatten) M (.blk b8 (.cells cs7.toArray ab)) true true false false))[4+(bq (N::Ls).flatten).length+(bq M).length]?=some (.blk b8 (.cells cs7.toArray ab)):=by
    have e4:4+(bq (N::Ls).flatten).length+(bq M).length=((bq (N::Ls).flatten).length+(bq M).length)+1+1+1+1:=by omega
    rw [e4]
    simp only [bh,List.getElem?_cons_succ]
    rw [List.getElem?_append_right (by omega),Nat.add_sub_cancel_left,List.getElem?_append_right (Nat.le_refl _),Nat.sub_self]; rfl
   refine eR hI 3 cs7 bm (by omega) rfl (by rw [hT.length]) (m:=1) (o:=0) ?_ hT.one (by omega) (by omega) fun v' w_ hI=>?_
   ·intro i u hi
    rw [hI.cellL hblk,Nat.zero_add]
    simpa using hi
   rw [gB] at hI
   have k9:=fun (_:aF D 9 9=true)=>‹D 8=true›
   have k11:=fun (_:aF D 9 11=true)=>(rfl:aF D 9 9=true)
   have hI:Inv w [] (bh (.blk b1 (.cells #[.int .i64 c0.head.kind,.int .i64 c0.head.n,.string c0.head.name,kv,.slice (some ⟨b,o,none⟩) c0.body.length cap] av)) (.blk b2 (.cells #[.int .i64 0,.int .i64 0,.string ⟨#[]⟩,.slice none 0 0,.slice none 0 0] av)) (.blk b3 (.cells #[.int .i64 c0.head.kind,.int .i64 c0.head.n,.string c0.head.name,kh,nT] av)) (.blk b3 (.cells #[.int .i64 c0.head.kind,.int .i64 c0.head.n,.string c0.head.name,kh,v'] av)) (aL nT ab 4 css) (aL v' ab 4 (css++[cs7])) (bq (N::Ls).flatten) M (.blk b8 (.cells cs7.toArray ab)) (D 7) (D 8) true (D 11)) S w_:=by
    rw [‹D 7=true›,‹D 8=true›,f11]
    exact hI
   exact ⟨hF_.set 9 (by first|assumption|trivial),⟨M,cs7,b8,e7,e8,k8,k9,k11,k1,hI⟩⟩
  ·refine ai bi ?_
   exact ⟨hF_.set 10 rfl,⟨M,cs7,b8,e7,e8,k8,k9,k11,k1,hI⟩⟩
  ·obtain rfl:=bG ‹_›
   have Hc:=cK ‹_›
   rw [‹D 7=true›,‹D 8=true›,‹D 9=true›,bo] at hI
   obtain ⟨va,vn,vc,hv9⟩:=Inv.rowSlice hI 3 rfl
   refine dK hI 2 (n:=1) (by rw [hv9]; rfl) (by decide +kernel) rfl (by simp) (by rw [hv9]; simp [Value.cells,Value.oneCell']) fun w_ hI=>?_
   have hcl9:Value.cells hY=#[hY]:=by rw [hv9]; rfl
   rw [hcl9] at hI
   have k1:=fun (_:aF D 11 11=true)=>‹D 1=true›
   have k11:=fun (_:aF D 11 11=true)=>‹D 9=true›
   have hI:Inv w [] (bh (.blk b1 (.cells #[.int .i64 c0.head.kind,.int .i64 c0.head.n,.string c0.head.name,kv,.slice (some ⟨b,o,none⟩) c0.body.length cap] av)) (.blk b2 (.cells #[.int .i64 0,.int .i64 0,.string ⟨#[]⟩,.slice none 0 0,.slice none 0 0] av)) (.blk b3 (.cells #[.int .i64 c0.head.kind,.int .i64 c0.head.n,.string c0.head.name,kh,kvc] av)) (.blk b3 (.cells #[.int .i64 c0.head.kind,.int .i64 c0.head.n,.string c0.head.name,kh,hY] av)) (aL kvc ab 4 css) (aL hY ab 4 (css++[cs7])) (bq (N::Ls).flatten) M (.blk b8 (.cells cs7.toArray ab)) (D 7) (D 8) (D 9) true) S w_:=by
    rw [‹D 7=true›,‹D 8=true›,‹D 9=true›]
    exact hI
   exact ⟨hF_.set 11 trivial,⟨M,cs7,b8,e7,e8,k8,k9,k11,k1,hI⟩⟩
  obtain ⟨rfl,rfl,rfl,rfl,rfl,rfl,rfl,zQ,CJ,Hc,rfl,_,_⟩:=hF_.all
  have vG:D 7=true:=by assumption
  have Am:D 8=true:=by assumption
  have Fz:D 9=true:=by assumption
  have jP:D 11=true:=by assumption
  clear hF_ bU bV bH bR bZ bI bB ct cF cK bG bX
  obtain ⟨_,hT⟩:=e7 vG
  rw [vG,Am,Fz,jP] at hI
  refine bn (by omega) ?_
  refine ⟨⟨j+1,hY,Ls++[M],css++[cs7],hj',rfl,?_,?_⟩,by simp [intOf]; omega⟩
  ·rw [List.take_succ_eq_append_getElem hj']
   exact hg.snoc hT hT.length
  ·rw [<- List.cons_append,List.flatten_append,eJ]
   simp only [List.flatten_cons,List.flatten_nil,List.append_nil]
   refine hI.sub ?_
   simp only [bh,List.flatten_cons]
   rw [<- List.append_assoc]
   exact (((List.sublist_append_left _ _).cons_cons _).cons_cons _).cons_cons _ |>.cons_cons _
 ·have:j=c0.body.length:=by omega
  subst this
  rw [List.take_length] at hg
  obtain ⟨va,vn,vc,hvk⟩:=hI.rowSlice 3 rfl
  have hv1:kvc.oneCell'=true:=by rw [hvk]; rfl
  have o1:kh.oneCell'=true:=hT1.one kh (by simp)
  refine aq hI 2 bl rfl rfl ?_
  refine ao hI 1 rfl bl rfl rfl ?_ fun w' hI=>?_
  ·intro u hu
   have hu':u∈([.int .i64 c0.head.kind,.int .i64 c0.head.n,.string c0.head.name,kh,kvc]:List Value):=hu
   simp at hu'
   rcases hu' with rfl|rfl|rfl|rfl|rfl <;> first|rfl|exact o1|exact hv1
  refine aW hI 1 bl rfl rfl ?_
  have hI:Inv w [] (aL kvc ab 4 css::bq (N::Ls).flatten) S w':=hI.sub (List.sublist_append_right [_,_,_] _)
  rw [List.flatten_cons,eJ] at hI
  have hI:=hI.perm (M:=bq N++(aL kvc ab 4 css::bq Ls.flatten)) (List.perm_middle)
  obtain ⟨L,hT,hI⟩:=Inv.rowTree hI hg
  exact ⟨_,_,_,rfl,hI,Ext.refl _ _ _,rfl,_,N++L,rfl,by rw [eJ],_,kvc,N,L,rfl,rfl,hT1,hT⟩
end
end
section
open Go Go.RowKit
section
variable {P:Program} {w w0:World} {X:List Nat} {L:List Item} {S:ae} {K:Value->World->Prop}
theorem MG (h:Inv w0 X L S w) {T ty e:TypeId} {k by_ n cp:Nat} {z v:Value} {cs:List Bool} {xs:List Value} {a:Option Addr} (i:Nat)
  (hT:fQ P T=some (e,k,by_,z)) (hi:L[i]?=some (.row v e k n xs)) (hk:K v w) :
  Run P (bF .append #[T,T] ty cs [v,.slice a 0 cp]) w K:=by
 obtain ⟨hu,inf,hi',hz,hs,hb,hzs⟩:=iX hT
 have hown:=h.its _ (List.mem_of_getElem? hi)
 simp only [Item.holds] at hown
 refine Run.of (v:=v) (w':=w) ?_ hk
 rcases hown.2 with ⟨rfl,rfl⟩|⟨g,cap,cur,rfl,_,hg,hnc,hcm,hcs,ht⟩
 ·cases a <;> simp [bF,builtin,Builtin.append_,run_underlying hu,sizeOf,typeInfo,hi',Builtin.lenOf,Builtin.firstCells,loadCells,loadCellsFrom]
 ·cases a <;> simp [bF,builtin,Builtin.append_,run_underlying hu,sizeOf,typeInfo,hi',storeCells,hnc,Builtin.lenOf,Builtin.firstCells,loadCells,loadCellsFrom]
end
end
section
open Go Go.RowKit

structure Rows {α:Type} (k:Nat) (R:List Value->α->Prop) (css:List (List Value)) (ys:List α):Prop where
 hc:css.length=ys.length
 hk:∀ cs∈css,cs.length=k
 hR:∀ i (h:i<ys.length) (h1:i<css.length),R css[i] ys[i]
theorem Rows.nil {α:Type} (k:Nat) (R:List Value->α->Prop):Rows k R [] ([]:List α):=⟨rfl,by simp,fun i h=>by simp at h⟩
theorem Rows.snoc {α:Type} {k:Nat} {R:List Value->α->Prop} {css:List (List Value)} {ys:List α} (h:Rows k R css ys) {cs:List Value} {y:α} (hR:R cs y) (hl:cs.length=k):Rows k R (css++[cs]) (ys++[y]):=by
 refine ⟨by simp [h.hc],fun c hc=>?_,fun i h0 h2=>?_⟩
 ·rcases List.mem_append.1 hc with hc|hc
  ·exact h.hk c hc
  ·simp at hc; subst hc; exact hl
 ·have e2:=h.hc
  by_cases hi:i<ys.length
  ·rw [List.getElem_append_left (by omega),List.getElem_append_left hi]
   exact h.hR i hi (by omega)
  ·have:i=ys.length:=by simp at h0; omega
   subst this
   rw [List.getElem_append_right (by omega),List.getElem_append_right (by omega)]
   simp only [e2,Nat.sub_self,List.getElem_cons_zero]
   exact hR
theorem Rows.append {α:Type} {k:Nat} {R:List Value->α->Prop} {css css':List (List Value)} {ys ys':List α} (h:Rows k R css ys) (h':Rows k R css' ys'):Rows k R (css++css') (ys++ys'):=by
 have e:=h.hc
 have e':=h'.hc
 refine ⟨by simp [e,e'],fun c hc=>?_,fun i h0 h2=>?_⟩
 ·rcases List.mem_append.1 hc with hc|hc
  ·exact h.hk c hc
  ·exact h'.hk c hc
 ·by_cases hi:i<ys.length
  ·rw [List.getElem_append_left (by omega),List.getElem_append_left hi]
   exact h.hR i hi (by omega)
  ·have hi':i - css.length<ys'.length:=by simp at h0; omega
   rw [List.getElem_append_right (by omega),List.getElem_append_right (by omega)]
   have:=h'.hR (i - css.length) hi' (by omega)
   simpa only [e] using this
theorem RowRd.rows {α:Type} {S:ae} {v:Value} {e:TypeId} {k:Nat} {R:List Value->α->Prop} {css:List (List Value)} {ys:List α} (hr:Rows k R css ys) (h:RowRd S v e k css.length css.flatten):RdSl S k R v ys:=by
 obtain ⟨hl,h⟩:=h
 have hcy:=hr.hc
 rcases h with ⟨rfl,h0⟩|⟨g,cap,cur,rfl,hS,hnc,hcm,hcs,ht⟩
 ·have:ys=[]:=List.eq_nil_of_length_eq_zero (by omega)
  subst this
  exact ⟨none,0,rfl,Nat.le_refl _,Nat.zero_le _,.inl rfl⟩
 ·refine ⟨_,cap,by rw [hcy],by omega,hcm,.inr ⟨g,0,cur,e,(0,0),rfl,hS,fun i hi=>?_⟩⟩
  have:=gY k css i hr.hk (by omega)
  have hik:i * k+k<=css.length * k:=by rw [<- Nat.succ_mul]; exact Nat.mul_le_mul_right k (by omega)
  rw [<- ht,List.drop_take,List.take_take,Nat.min_eq_left (by omega)] at this
  rw [aH,Nat.zero_add,this]
  exact hr.hR i hi (by omega)
theorem yQ {k:Nat}:∀ {css:List (List Value)},(∀ cs∈css,cs.length=k)->css.flatten.length=css.length * k
 | [],_=>by simp
 | c::css,h=>by
  have:=yQ (css:=css) fun cs hc=>h cs (List.mem_cons_of_mem _ hc)
  rw [List.flatten_cons,List.length_append,h c (List.mem_cons_self ..),this,List.length_cons,Nat.succ_mul,Nat.add_comm]
section
variable {P:Program} {w w0:World} {X:List Nat} {L:List Item} {S:ae} {K:Value->World->Prop}
attribute [local irreducible] Run CondV aB aS
end
end
section
open Go Go.RowKit

theorem nX {P:Program} {T e:TypeId} {k:Nat} (h:cB P T=some (e,k)):P.underlying T=some (.slice e)/\∃ i,P.info? e=some i/\i.size=k:=by
 unfold cB at h
 split at h
 ·rename_i e1 he
  rw [Option.map_eq_some_iff] at h
  obtain ⟨i,hi,hx⟩:=h
  simp only [Prod.mk.injEq] at hx
  obtain ⟨rfl,rfl⟩:=hx
  exact ⟨he,i,hi,rfl⟩
 ·cases h
section
variable {P:Program} {w:World} {K:Value->World->Prop}
attribute [local irreducible] Run
theorem kC {n y:Nat} {code:BoundsCode} (h:n<=y):(Instr.sliceBound (.int .i64 n) y code).run P w=.ok n w:=by
 have h1:(0:Int)<=(n:Int)/\(n:Int)<=(y:Int):=by omega
 simp [Instr.sliceBound,asIntOf,h]
theorem Gg {T ty e:TypeId} {k h len cap:Nat} {a:Option Addr} (hT:cB P T=some (e,k)) (hh:h<=cap) (hk:K (.slice (if cap=0 then a else a.map (·.add (0 * k))) h cap) w) :
  Run P (sOp (.slice T (.const (.slice a len cap)) none (some (.const (.int .i64 h))) none) ty) w K:=by
 obtain ⟨hu,i,hi,_⟩:=nX hT
 refine Run.of ?_ hk
 simp [sOp,execOp,ev0,evE,Instr.sliceAt,Instr.slice,Instr.sliceBounds,run_underlying hu,kC hh,sizeOf,typeInfo,hi]
theorem PB {T ty e:TypeId} {k l len cap:Nat} {a:Option Addr} (hT:cB P T=some (e,k)) (hl:l<=len) (hk:K (.slice (if cap=l then a else a.map (·.add (l * k))) (len - l) (cap - l)) w) :
  Run P (sOp (.slice T (.const (.slice a len cap)) (some (.const (.int .i64 l))) none none) ty) w K:=by
 obtain ⟨hu,i,hi,hs⟩:=nX hT
 refine Run.of ?_ hk
 simp [sOp,execOp,ev0,evE,Instr.sliceAt,Instr.slice,Instr.sliceBounds,run_underlying hu,kC hl,sizeOf,typeInfo,hi,hs]
theorem PO {T ty e:TypeId} {k l h len cap:Nat} {a:Option Addr} (hT:cB P T=some (e,k)) (hl:l<=h) (hh:h<=cap) (hk:K (.slice (if cap=l then a else a.map (·.add (l * k))) (h - l) (cap - l)) w) :
  Run P (sOp (.slice T (.const (.slice a len cap)) (some (.const (.int .i64 l))) (some (.const (.int .i64 h))) none) ty) w K:=by
 obtain ⟨hu,i,hi,hs⟩:=nX hT
 refine Run.of ?_ hk
 simp [sOp,execOp,ev0,evE,Instr.sliceAt,Instr.slice,Instr.sliceBounds,run_underlying hu,kC hl,kC hh,sizeOf,typeInfo,hi,hs]
end
theorem RdSl.to {α:Type} {S:ae} {k:Nat} {R:List Value->α->Prop} {a:Option Addr} {cap n h:Nat} {xs:List α} (hx:RdSl S k R (.slice a n cap) xs) (hh:h<=xs.length) :
  RdSl S k R (.slice (if cap=0 then a else a.map (·.add (0 * k))) h cap) (xs.take h):=by
 obtain ⟨a',cap',e,hl,hc,hx⟩:=hx
 simp only [Value.slice.injEq] at e
 obtain ⟨rfl,rfl,rfl⟩:=e
 have e1:(if cap=0 then a else a.map (·.add (0 * k)))=a:=by
  split
  ·rfl
  ·cases a <;> simp [Addr.add]
 rw [e1]
 have e2:h=(xs.take h).length:=by rw [List.length_take]; omega
 refine ⟨a,cap,by rw [<- e2],by omega,hc,?_⟩
 rcases hx with rfl|⟨b,o,c,E,fz,rfl,hS,hR⟩
 ·left; simp
 ·right
  refine ⟨b,o,c,E,fz,rfl,hS,fun i hi=>?_⟩
  rw [List.getElem_take]
  exact hR i (by omega)
theorem RdSl.from {α:Type} {S:ae} {k:Nat} {R:List Value->α->Prop} {a:Option Addr} {cap n l:Nat} {xs:List α} (hx:RdSl S k R (.slice a n cap) xs) (hl:l<=xs.length) :
  RdSl S k R (.slice (if cap=l then a else a.map (·.add (l * k))) (n - l) (cap - l)) (xs.drop l):=by
 obtain ⟨a',cap',e,hlc,hc,hx⟩:=hx
 simp only [Value.slice.injEq] at e
 obtain ⟨rfl,rfl,rfl⟩:=e
 refine ⟨_,cap - l,by rw [List.length_drop],by rw [List.length_drop]; omega,by omega,?_⟩
 by_cases hd:xs.drop l=[]
 ·exact .inl hd
 ·rcases hx with rfl|⟨b,o,c,E,fz,rfl,hS,hR⟩
  ·simp at hd
  ·right
   have hlt:l<xs.length:=by
    rcases Nat.lt_or_ge l xs.length with h|h
    ·exact h
    ·exact absurd (List.drop_eq_nil_of_le h) hd
   refine ⟨b,o+l * k,c,E,fz,?_,hS,fun i hi=>?_⟩
   ·rw [if_neg (by omega)]
    simp [Addr.add]
   ·rw [List.getElem_drop]
    have:=hR (l+i) (by simp at hi; omega)
    rwa [Nat.add_mul,<- Nat.add_assoc] at this
section
variable {P:Program} {w w0:World} {X:List Nat} {L:List Item} {S:ae} {K:Value->World->Prop}
attribute [local irreducible] Run CondV aB aS
theorem Ee {α:Type} {R:List Value->α->Prop} {xs:List α} {v:Value} {T ty e:TypeId} {k h:Nat} (hT:cB P T=some (e,k)) (hx:RdSl S k R v xs) (hh:h<=xs.length)
  (hk:∀ v',RdSl S k R v' (xs.take h)->K v' w):Run P (sOp (.slice T (.const v) none (some (.const (.int .i64 h))) none) ty) w K:=by
 obtain ⟨a,cap,rfl,hl,hc,hx'⟩:=id hx
 exact Gg hT (by omega) (hk _ (hx.to hh))
theorem gh {α:Type} {R:List Value->α->Prop} {xs:List α} {v:Value} {T ty e:TypeId} {k l:Nat} (hT:cB P T=some (e,k)) (hx:RdSl S k R v xs) (hl:l<=xs.length)
  (hk:∀ v',RdSl S k R v' (xs.drop l)->K v' w):Run P (sOp (.slice T (.const v) (some (.const (.int .i64 l))) none none) ty) w K:=by
 obtain ⟨a,cap,rfl,hl',hc,hx'⟩:=id hx
 exact PB hT hl (hk _ (hx.from hl))
end
theorem RdSl.exact {α:Type} {S:ae} {k:Nat} {R:List Value->α->Prop} {v:Value} {ys:List α} (h:RdSl S k R v ys) (hk:∀ cs y,R cs y->cs.length=k) :
  ∃ ds:List {cs:List Value // cs.length=k},RdSl S k (fun cs d=>cs=d.val) v ds/\Rows k R (ds.map (·.val)) ys:=by
 obtain ⟨a,cap,rfl,hl,hc,hx⟩:=h
 rcases hx with rfl|⟨b,o,c,E,fz,rfl,hS,hR⟩
 ·exact ⟨[],⟨a,cap,rfl,hl,hc,.inl rfl⟩,Rows.nil _ _⟩
 ·refine ⟨List.ofFn fun i:Fin ys.length=>⟨aH c (o+i.val * k) k,hk _ _ (hR i.val i.isLt)⟩,⟨_,cap,by rw [List.length_ofFn],by rw [List.length_ofFn]; exact hl,hc,.inr ⟨b,o,c,E,fz,rfl,hS,fun i hi=>by simp⟩⟩,⟨by simp,fun cs hcs=>?_,fun i h1 h2=>?_⟩⟩
  ·obtain ⟨d,_,rfl⟩:=List.mem_map.1 hcs
   exact d.property
  ·simp only [List.getElem_map,List.getElem_ofFn]
   exact hR i h1
section
variable {P:Program} {w w0:World} {X:List Nat} {L:List Item} {S:ae} {K:Value->World->Prop}
attribute [local irreducible] Run CondV aB aS
theorem ed {α:Type} {R:List Value->α->Prop} (h:Inv w0 X L S w) {T ty e:TypeId} {k by_:Nat} {z v u:Value} {cs:List Bool} {css:List (List Value)} {ys:List α} (i:Nat)
  (hT:fQ P T=some (e,k,by_,z)) (hk0:0<k) (hi:L[i]?=some (aL v e k css)) (hr:RdSl S k R u ys) (hlen:∀ cs y,R cs y->cs.length=k) (h1:∀ cs y,R cs y->∀ c∈cs,c.oneCell'=true)
  (hfit:css.length+ys.length<=4294967296) (hby:by_<=32768) (hk:∀ v' w' css2,Rows k R css2 ys->Inv w0 X (L.set i (aL v' e k (css++css2))) S w'->K v' w') :
  Run P (bF .append #[T,T] ty cs [v,u]) w K:=by
 obtain ⟨ds,hd,hR⟩:=hr.exact hlen
 have hdl:ds.length=ys.length:=by have:=hR.hc; simpa using this
 have hone:∀ d∈ds,∀ c∈d.val,c.oneCell'=true:=by
  intro d hd' c hc
  obtain ⟨j,hj,rfl⟩:=List.mem_iff_getElem.1 hd'
  have:=hR.hR j (by omega) (by simpa using hj)
  simp only [List.getElem_map] at this
  exact h1 _ _ this c hc
 obtain ⟨a,cap,rfl,hl',hc',hx⟩:=id hd
 have e1:∀ v',Item.row v' e k (css.length+ds.length) (css.flatten++(ds.map (·.val)).flatten)=aL v' e k (css++ds.map (·.val)):=fun v'=>by simp [aL]
 rcases hx with rfl|⟨b,o,c,E,fz,rfl,hS,hel⟩
 ·refine MG h i hT hi (hk v w [] (by simpa using hR) ?_)
  have:L.set i (aL v e k (css++[]))=L:=by
   obtain ⟨hlt,e'⟩:=List.getElem?_eq_some_iff.1 hi
   rw [List.append_nil,<- e',List.set_getElem_self]
  rw [this]
  exact h
 ·have hfl:(ds.map (·.val)).flatten.length=ds.length * k:=by
   rw [yQ (k:=k) (fun cs hcs=>by obtain ⟨d,_,rfl⟩:=List.mem_map.1 hcs; exact d.property),List.length_map]
  refine eR h i (ds.map (·.val)).flatten hT hk0 hi hfl ?_ ?_ (by omega) hby fun v' w' hI=>hk _ _ _ hR ?_
  ·intro j u hj
   have hj':j<ds.length * k:=by
    rw [<- hfl]
    exact (List.getElem?_eq_some_iff.1 hj).1
   have hq:j / k<ds.length:=(Nat.div_lt_iff_lt_mul hk0).2 hj'
   have hcell:=hel (j / k) hq
   have hflat:=gY k (ds.map (·.val)) (j / k) (fun cs hcs=>by obtain ⟨d,_,rfl⟩:=List.mem_map.1 hcs; exact d.property) (by simpa using hq)
   have hdm:=Nat.div_add_mod j k
   rw [Nat.mul_comm] at hdm
   rw [h.cellS hS]
   have e2:(ds.map (·.val)).flatten[j]?=(ds[j / k].val)[j % k]?:=by
    rw [List.getElem_map] at hflat
    rw [<- hflat,List.getElem?_take,if_pos (Nat.mod_lt _ hk0),List.getElem?_drop]
    congr 1
    omega
   rw [e2] at hj
   have:=ar hcell (j % k) u hj
   rw [<- this]
   congr 1
   omega
  ·intro u hu
   obtain ⟨cs,hcs,hu⟩:=List.mem_flatten.1 hu
   obtain ⟨d,hd',rfl⟩:=List.mem_map.1 hcs
   exact hone d hd' u hu
  ·rw [<- e1]
   exact hI
end
end
section
open Go Go.RowKit

abbrev Bs:=List UInt8
abbrev bs (s:ByteArray):Bs:=s.data.toList
abbrev st (l:Bs):ByteArray:=⟨l.toArray⟩
theorem Eu (l:Bs):bs (st l)=l:=by simp [bs]
theorem kq (l:Bs):(st l).size=l.length:=by simp [ByteArray.size]

def sgn (s:Bs) (i:Nat) (c:Nat):Bool:=match s[i]? with
 | some b=>decide (b.toNat=c)
 | none=>false
def btw (s:Bs) (i:Nat) (a b:Nat):Bool:=match s[i]? with
 | some x=>decide (a<=x.toNat) && decide (x.toNat<=b)
 | none=>false
def sml (s:Bs) (i:Nat):Bool:=btw s i 97 122
def dig (s:Bs) (i:Nat):Bool:=btw s i 48 57
def upp (s:Bs) (i:Nat):Bool:=btw s i 65 90
def cut (s:Bs) (a b:Nat):Bs:=(s.take b).drop a

def zJ (s:Bs):Nat->Nat->Nat
 | 0,e=>e
 | n+1,e=>if sml s e=true then zJ s n (e+1) else e
def iJ (s:Bs) (i:Nat):List ByteArray->Bs->Bs
 | [],b=>b
 | x::l,b=>iJ s i l (if decide (i+x.size<=s.length)=true/\cut s i (i+x.size)=bs x/\b.length<x.size then bs x else b)
def uI (s:Bs) (i:Nat):Option (Bs × Nat):=
 let e:=zJ s (s.length - i) i
 if i+6<e then none else if i<e then some (cut s i e,e) else
  let b:=iJ s i signs []
  if b=[] then none else some (b,i+b.length)
def ru (s:Bs):Nat->Nat->Nat
 | 0,e=>e
 | n+1,e=>if dig s e=true then ru s n (e+1) else e
def DH:Bs->Nat->Nat
 | [],n=>n
 | b::l,n=>DH l (n * 10+(b.toNat - 48))
def Pi (s:Bs) (i:Nat):Option (T × Nat):=
 let from_:=if sgn s i 45=true then i+1 else i
 let e:=ru s 4 from_
 let d:=cut s from_ e
 let n:=DH d 0
 if d=[] ∨ (sgn d 0 48=true/\1<d.length) ∨ (i<from_/\n=0) ∨ 999<n then none
 else some (.mk 2 (if i<from_ then -(n:Int) else n) emptyB [],e)
def JE (name:Bs) (kids:List T):T:=.mk 3 0 (st name) kids
def Rj:T:=JE [91,93] []
def II (a b:T):T:=JE [46] [a,b]
def iP:List T->T->T
 | [],t=>t
 | a::l,t=>II a (iP l t)
def opF (s:Bs) (i:Nat):Option (Bs × Nat):=
 let from_:=if sgn s i 32=true then i+1 else i
 if s.length<=from_ then none else match uI s from_ with
  | none=>none
  | some (name,next)=>
   let word:=decide (name=[105,115]) || decide (name=[109,111,100])
   if cn (st name)=0 ∨ word≠decide (i<from_) ∨ (word=true/\sgn s next 32=false) then none
   else some (name,if word=true then next+1 else next)
mutual
def iz:Nat->Bs->Nat->Nat->Nat->Option (T × Nat)
 | 0,_,_,_,_=>none
 | f+1,s,i,d,0=>tp f s i d
 | f+1,s,i,d,l+1=>match iz f s i d l with
  | none=>none
  | some (t,n)=>HA f s n d l t
def HA:Nat->Bs->Nat->Nat->Nat->T->Option (T × Nat)
 | 0,_,_,_,_,_=>none
 | f+1,s,i,d,l,t=>match opF s i with
  | none=>some (t,i)
  | some (name,after)=>if cn (st name)=((l+1:Nat):Int) then match iz f s after d l with
    | none=>none
    | some (r,e)=>if l=2 then some (JE name [t,r],e) else HA f s e d l (JE name [t,r])
   else some (t,i)
def tp:Nat->Bs->Nat->Nat->Option (T × Nat)
 | 0,_,_,_=>none
 | f+1,s,i,d=>if d=0 ∨ s.length<=i then none else if sgn s i 40=true then match iz f s (i+1) d 3 with
    | none=>none
    | some (t,n)=>if sgn s n 41=true then some (t,n+1) else none
  else if sgn s i 91=true/\sgn s (i+1) 93=false then match ir f s (i+1) (d - 1) 93 124 [] with
    | none=>none
    | some (ts,n)=>if sgn s n 93=true then some (iP ts Rj,n+1) else match iz f s (n+1) (d - 1) 3 with
     | none=>none
     | some (t,e)=>if sgn s e 93=true then some (iP ts t,e+1) else none
  else if upp s i=true then some (.mk 1 ((s.getD i 0).toNat - 65) emptyB [],i+1)
  else if dig s i=true ∨ (sgn s i 45=true/\dig s (i+1)=true) then Pi s i
  else match uI s i with
   | none=>none
   | some (name,n)=>if sgn s n 40=false then some (JE name [],n) else match ir f s (n+1) (d - 1) 41 41 [] with
    | none=>none
    | some (ts,e)=>some (JE name ts,e+1)
def ir:Nat->Bs->Nat->Nat->Nat->Nat->List T->Option (List T × Nat)
 | 0,_,_,_,_,_,_=>none
 | f+1,s,i,d,e,o,acc=>match iz f s i d 3 with
  | none=>none
  | some (t,n)=>if sgn s n e=true ∨ sgn s n o=true then some (acc++[t],n) else if sgn s n 44=true then ir f s (n+1) d e o (acc++[t]) else none
end

def ot (t:T):Bool:=decide (t.kind=3) && (decide (t.kids.length=2) && decide (0<cn t.name))
def AK (t:T):Bool:=decide (t.kind=3) && (decide (t.name=st [46]) && decide (t.kids.length=2))
def NQ (t:T):Bool:=decide (t.kind=3) && (decide (t.name=st [91,93]) && decide (t.kids.length=0))
def yS (t:T):Bool:=decide (t.kind=3) && (decide (t.kids.length=0) && decide (0<cn t.name))
def Fg (s:Bs):Bool:=sml s 0 || (dig s 0 || (upp s 0 || (sgn s 0 91 || sgn s 0 40)))
def im (n:Bs):Bs:=if n=[105,115] ∨ n=[109,111,100] then 32::(n++[32]) else n
def De:Nat->Nat->Bs->Option Bs
 | 0,_,_=>none
 | f+1,n,out=>if 9<n then De f (n / 10) (UInt8.ofNat (48+n % 10)::out) else some (UInt8.ofNat (48+n)::out)
def Rf (n:Int):Option Bs:=if n<0 then (De 20 (-n).toNat []).map fun l=>45::l else De 20 n.toNat []
def Pq (t:T):Option Bs:=if t.kind=1 then (if 0<=t.n/\t.n<=25 then some [UInt8.ofNat (65+t.n.toNat)] else none)
 else if t.kind=2 then (if -999<=t.n/\t.n<=999 then Rf t.n else none) else if t.kids.length=0 then some (bs t.name) else none
mutual
def GM:Nat->T->Option Bs
 | 0,_=>none
 | f+1,t=>if AK t=true then Em f t [] else if ot t=true then match t.kids with
   | [a,b]=>match Mf f a (if cn t.name=3 then 2 else cn t.name),Ft f b (cn t.name - 1) with
    | some x,some y=>some (x++im (bs t.name)++y)
    | _,_=>none
   | _=>none
  else if t.kind=3/\0<t.kids.length then match o6 f t.kids [] with
   | some x=>some (bs t.name++[40]++x++[41])
   | none=>none
  else Pq t
def Em:Nat->T->List T->Option Bs
 | 0,_,_=>none
 | f+1,t,items=>if AK t=true then match t.kids with
   | [a,b]=>Em f b (items++[a])
   | _=>none
  else match o6 f items [] with
   | none=>none
   | some x=>if NQ t=true then some ([91]++x++[93]) else match GM f t with
    | none=>none
    | some y=>some ([91]++x++[124]++y++[93])
def o6:Nat->List T->Bs->Option Bs
 | 0,_,_=>none
 | _+1,[],out=>some out
 | f+1,t::l,out=>match GM f t with
  | none=>none
  | some x=>o6 f l (out++x++(if l=[] then [] else [44]))
def qF:Nat->T->Int->Option Bs
 | 0,_,_=>none
 | f+1,t,l=>match GM f t with
  | none=>none
  | some x=>some (if ot t=true/\l<cn t.name then [40]++x++[41] else x)
def Mf:Nat->T->Int->Option Bs
 | 0,_,_=>none
 | f+1,t,l=>if yS t=true then match GM f t with
   | none=>none
   | some x=>some ([40]++x++[41])
  else qF f t l
def Ft:Nat->T->Int->Option Bs
 | 0,_,_=>none
 | f+1,t,l=>match qF f t l with
  | none=>none
  | some x=>if x=[] then none else some (if yS t=true ∨ Fg x=false then [40]++x++[41] else x)
end
def y4 (f:Nat):List T->Bool->Bs->Option Bs
 | [],_,out=>some out
 | t::l,first,out=>match GM f t with
  | none=>none
  | some x=>y4 f l false (out++(if first=true then [58,45] else [44])++x)
def LJ (f:Nat) (c:C):Option Bs:=match GM f c.head with
 | none=>none
 | some x=>match y4 f c.body true x with
  | none=>none
  | some y=>some (y++[46])

def n3 (f:Nat):Nat->Bs->Nat->List T->Option (List T × Nat)
 | 0,_,_,_=>none
 | k+1,s,i,acc=>if 6<acc.length then none else match iz f s i 30 3 with
  | none=>none
  | some (t,n)=>if sgn s n 44=true then n3 f k s (n+1) (acc++[t]) else some (acc++[t],n)
def Nl (f:Nat) (s:Bs) (c:C) (n:Nat):Option C:=
 if n+1=s.length/\sgn s n 46=true/\ce c=true/\wC c<=200/\LJ f c=some s then some c else none
def ve (f:Nat) (s:Bs):Option C:=if 1000<s.length then none else match iz f s 0 30 3 with
 | none=>none
 | some (h,n)=>if sgn s n 58=true/\sgn s (n+1) 45=true then match n3 f 8 s (n+2) [] with
   | none=>none
   | some (b,n2)=>Nl f s ⟨h,b⟩ n2
  else Nl f s ⟨h,[]⟩ n
def DD (s:Bs) (c:Nat):Nat->Nat->Nat->List Bs->List Bs
 | 0,i,from_,acc=>acc++[cut s from_ i]
 | n+1,i,from_,acc=>if sgn s i c=true then DD s c n (i+1) (i+1) (acc++[cut s from_ i]) else DD s c n (i+1) from_ acc
def O8 (s:Bs):List Bs:=DD s 10 s.length 0 0 []
def li (f:Nat):List Bs->List C->Option (List C)
 | [],acc=>some acc
 | l::ls,acc=>match ve f l with
  | none=>none
  | some c=>li f ls (acc++[c])
def Mp (f:Nat) (s:Bs):Option (List C):=
 let ls:=O8 s
 if 21<ls.length ∨ ls.getLast?≠some [] then none else li f ls.dropLast []
def OW (s:Bs):Bool:=match Mp 60 s with
 | some p=>decide (0<p.length) && (decide (p.length<=8) && p.all fun c=>ce c && decide (wC c<=200))
 | none=>false
end
section
open Go Go.RowKit
section
variable {P:Program} {w w0:World} {X:List Nat} {L:List Item} {S:ae} {K:Value->World->Prop}
theorem Bp {T:TypeId} {cx cy:Bool} {k:IntKind} {a b:Int} (h:a<b) (hk:K (.bool true) w):Run P (cR .lss T cx cy (.int k a) (.int k b)) w K:=by
 refine bA ?_
 rw [decide_eq_true h]
 exact hk
theorem eM {T:TypeId} {cx cy:Bool} {k:IntKind} {a b:Int} (h:¬ (a<b)) (hk:K (.bool false) w):Run P (cR .lss T cx cy (.int k a) (.int k b)) w K:=by
 refine bA ?_
 rw [decide_eq_false h]
 exact hk
theorem Fj {T:TypeId} {cx cy:Bool} {k:IntKind} {a b:Int} (h:a<=b) (hk:K (.bool true) w):Run P (cR .leq T cx cy (.int k a) (.int k b)) w K:=by
 refine eK ?_
 rw [decide_eq_true h]
 exact hk
theorem Oh {T:TypeId} {cx cy:Bool} {k:IntKind} {a b:Int} (h:¬ (a<=b)) (hk:K (.bool false) w):Run P (cR .leq T cx cy (.int k a) (.int k b)) w K:=by
 refine eK ?_
 rw [decide_eq_false h]
 exact hk
theorem Kx {T:TypeId} {cx cy:Bool} {k:IntKind} {a b:Int} (h:b<a) (hk:K (.bool true) w):Run P (cR .gtr T cx cy (.int k a) (.int k b)) w K:=by
 refine dv ?_
 rw [decide_eq_true h]
 exact hk
theorem jN {T:TypeId} {cx cy:Bool} {k:IntKind} {a b:Int} (h:¬ (b<a)) (hk:K (.bool false) w):Run P (cR .gtr T cx cy (.int k a) (.int k b)) w K:=by
 refine dv ?_
 rw [decide_eq_false h]
 exact hk
theorem oj {T:TypeId} {cx cy:Bool} {k:IntKind} {a b:Int} (h:b<=a) (hk:K (.bool true) w):Run P (cR .geq T cx cy (.int k a) (.int k b)) w K:=by
 refine fY ?_
 rw [decide_eq_true h]
 exact hk
theorem ya {T:TypeId} {cx cy:Bool} {k:IntKind} {a b:Int} (h:¬ (b<=a)) (hk:K (.bool false) w):Run P (cR .geq T cx cy (.int k a) (.int k b)) w K:=by
 refine fY ?_
 rw [decide_eq_false h]
 exact hk
theorem fK {T:TypeId} {cx cy:Bool} {k:IntKind} {a b:Int} (h:a=b) (hk:K (.bool true) w):Run P (cR .eql T cx cy (.int k a) (.int k b)) w K:=by
 refine aY ?_
 rw [decide_eq_true h]
 exact hk
theorem eC {T:TypeId} {cx cy:Bool} {k:IntKind} {a b:Int} (h:¬ (a=b)) (hk:K (.bool false) w):Run P (cR .eql T cx cy (.int k a) (.int k b)) w K:=by
 refine aY ?_
 rw [decide_eq_false h]
 exact hk
theorem zd {T:TypeId} {cx cy:Bool} {a b:Int} (hr:-9223372036854775808<=a * b/\a * b<=9223372036854775807) (hk:K (.int .i64 (a * b)) w):Run P (cR .mul T cx cy (.int .i64 a) (.int .i64 b)) w K:=
 Run.of (by simp [cR,cO,binOp,Op.intArith,IntWalk.i64_in _ hr]) hk
theorem Q3 {T:TypeId} {cx cy:Bool} {a b:Nat} (hb:0<b) (ha:a<=9223372036854775807) (hk:K (.int .i64 ((a / b:Nat):Int)) w):Run P (cR .quo T cx cy (.int .i64 (a:Int)) (.int .i64 (b:Int))) w K:=by
 refine Run.of ?_ hk
 have h0:¬ ((b:Int)=0):=by omega
 have h1:IntKind.i64.wrap ((a:Int).tdiv b)=((a / b:Nat):Int):=by
  rw [IntWalk.i64_quo _ _ (by omega)]; rfl
 simp only [cR,cO,binOp,Op.intDiv,Sem.run_bind,Result.andThen_ok,if_neg h0,Sem.run_pure]
 exact congrArg (fun v=>Result.ok (Next.value (.int .i64 v)) w) h1
theorem JO {T:TypeId} {cx cy:Bool} {a b:Nat} (hb:0<b) (hk:K (.int .i64 ((a % b:Nat):Int)) w):Run P (cR .rem T cx cy (.int .i64 (a:Int)) (.int .i64 (b:Int))) w K:=by
 refine Run.of ?_ hk
 have h1:(a:Int).tmod b=((a % b:Nat):Int):=by
  rw [IntWalk.rem_in _ _ (by omega)]; rfl
 have h0:¬ ((b:Int)=0):=by omega
 simp only [cR,cO,binOp,Op.intDiv,Sem.run_bind,Result.andThen_ok,if_neg h0,Sem.run_pure]
 exact congrArg (fun v=>Result.ok (Next.value (.int .i64 v)) w) h1
theorem Rr {T:TypeId} {cx cy:Bool} {a b:Nat} (ha:a<4611686018427387904) (hb:b<4611686018427387904) (hk:K (.int .i64 ((a ^^^ b:Nat):Int)) w):Run P (cR .xor T cx cy (.int .i64 (a:Int)) (.int .i64 (b:Int))) w K:=by
 refine Run.of ?_ hk
 have hx:a ^^^ b<2 ^ 62:=Nat.xor_lt_two_pow (by simpa using ha) (by simpa using hb)
 have e1:(BitVec.ofInt 64 (a:Int)).toNat=a:=by rw [BitVec.toNat_ofInt]; omega
 have e2:(BitVec.ofInt 64 (b:Int)).toNat=b:=by rw [BitVec.toNat_ofInt]; omega
 have h1:IntKind.i64.wrap ((BitVec.ofInt 64 (a:Int) ^^^ BitVec.ofInt 64 (b:Int)).toNat:Int)=((a ^^^ b:Nat):Int):=by
  rw [BitVec.toNat_xor,e1,e2]
  exact IntWalk.i64_in _ (by omega)
 simp only [cR,cO,binOp,Op.intBits,Sem.run_bind,Result.andThen_ok,Sem.run_pure]
 exact congrArg (fun v=>Result.ok (Next.value (.int .i64 v)) w) h1
theorem Ry {T:TypeId} {cx cy:Bool} {k:IntKind} {a b c:Int} (hr:k.wrap (a+b)=c) (hk:K (.int k c) w):Run P (cR .add T cx cy (.int k a) (.int k b)) w K:=
 Run.of (by simp [cR,cO,binOp,Op.intArith,hr]) hk
theorem Pa {T:TypeId} {cx cy:Bool} {k:IntKind} {a b c:Int} (hr:k.wrap (a - b)=c) (hk:K (.int k c) w):Run P (cR .sub T cx cy (.int k a) (.int k b)) w K:=
 Run.of (by simp [cR,cO,binOp,Op.intArith,hr]) hk
theorem pN {src dst ty:TypeId} {k k':IntKind} {n m:Int} {d:TypeDesc} (hs:P.underlying src=some d) (hd:P.underlying dst=some (.int k')) (hr:k'.wrap n=m) (hk:K (.int k' m) w) :
  Run P (sOp (.convert src dst (.const (.int k n))) ty) w K:=by
 refine Run.of ?_ hk
 simp [sOp,execOp,ev0,evE,convert,run_underlying hs,run_underlying hd,Conv.intToInt,hr]
theorem QV {T ty:TypeId} {n:Int} (hr:-9223372036854775808<=-n/\-n<=9223372036854775807) (hk:K (.int .i64 (-n)) w):Run P (sOp (.unOp .neg T (.const (.int .i64 n))) ty) w K:=
 Run.of (by simp [sOp,execOp,ev0,evE,Op.unary,Op.intArith,Int.zero_sub,IntWalk.i64_in _ hr]) hk
theorem Rq (a b:Bs):st a++st b=st (a++b):=by
 apply ByteArray.ext
 simp [st]
theorem dJ {T:TypeId} {cx cy:Bool} {a b:Bs} (hl:a.length+b.length<=9223372036854775807) (hk:K (.string (st (a++b))) w):Run P (cR .add T cx cy (.string (st a)) (.string (st b))) w K:=by
 refine Run.of ?_ hk
 have h1:¬ (9223372036854775807<(((st a).size+(st b).size:Nat):Int)):=by rw [kq,kq]; omega
 have h2:IntKind.i64.max=9223372036854775807:=by decide
 simp only [cR,binOp,Op.stringOp,Sem.run_bind,pw,Result.andThen_ok,gt_iff_lt,h2,if_neg h1,Sem.run_pure,Rq]
theorem Q1 (s:Bs) (a b:Nat):(st s).extract a b=st (cut s a b):=by
 apply ByteArray.ext
 apply Array.toList_inj.1
 simp [cut,ByteArray.data_extract,List.drop_take]
theorem Cz {T ty:TypeId} {s:Bs} {a b:Nat} (hu:P.underlying T=some .string) (hab:a<=b) (hb:b<=s.length) (hk:K (.string (st (cut s a b))) w) :
  Run P (sOp (.slice T (.const (.string (st s))) (some (.const (.int .i64 a))) (some (.const (.int .i64 b))) none) ty) w K:=by
 refine Run.of ?_ hk
 have hb':b<=(st s).size:=by rw [kq]; exact hb
 simp [sOp,execOp,ev0,evE,Instr.sliceAt,Instr.slice,Instr.sliceBounds,run_underlying hu,kC hab,kC hb',Q1]
theorem eB {T ty:TypeId} {s:Bs} {i:Nat} (hu:P.underlying T=some .string) (hi:i<s.length) (hk:K (.int .u8 s[i].toNat) w) :
  Run P (sOp (.index T (.const (.string (st s))) (.const (.int .i64 i))) ty) w K:=by
 have hi':i<(st s).size:=by rw [kq]; exact hi
 refine kZ hu hi' ?_
 have:(st s)[i]=s[i]:=by simp [st,ByteArray.getElem_eq_getElem_data]
 rw [this]
 exact hk
theorem fA {T ty:TypeId} {cs:List Bool} {s:Bs} (hu:P.underlying T=some .string) (hk:K (.int .i64 s.length) w):Run P (bF .len #[T] ty cs [.string (st s)]) w K:=by
 refine gq hu ?_
 rw [kq]
 exact hk
theorem BW {T:TypeId} {cx cy:Bool} {a b:Bs} (hk:K (.bool (decide (a=b))) w):Run P (cR .eql T cx cy (.string (st a)) (.string (st b))) w K:=by
 refine bf ?_
 have:decide (st a=st b)=decide (a=b):=by
  rw [decide_eq_decide]
  exact ⟨fun h=>by rw [<- Eu a,h,Eu],fun h=>by rw [h]⟩
 rw [this]
 exact hk
theorem Mb {T:TypeId} {cx cy:Bool} {a b:Bs} (hk:K (.bool (!decide (a=b))) w):Run P (cR .neq T cx cy (.string (st a)) (.string (st b))) w K:=by
 refine xF ?_
 have:decide (st a=st b)=decide (a=b):=by
  rw [decide_eq_decide]
  exact ⟨fun h=>by rw [<- Eu a,h,Eu],fun h=>by rw [h]⟩
 rw [this]
 exact hk
theorem Cq (h:Inv w0 X L S w) {T T' D ty e:TypeId} {by_:Nat} {z:Value} {n:Nat} (hT:fQ P T=some (e,1,by_,z)) (he:P.underlying T'=some (.slice e)) (hb:P.underlying e=some (.int .u8)) (hD:P.underlying D=some .string)
  {K:Value->Value->World->Prop} (hk:∀ w',Inv w0 X L S w'->K (.slice (some ⟨w.heap.size,0,none⟩) 1 1) (.string (st [UInt8.ofNat n])) w') :
  Run P (bt T 1 [(0,.int .u8 (n:Int))]) w fun u w'=>Run P (sOp (.convert T' D (.const u)) ty) w' (K u):=by
 refine re h hT rfl (by omega) (by omega) fun w' hI=>?_
 have hi:(L++[Item.blk w.heap.size (.cells (Value.int .u8 (n:Int)).cells e)])[L.length]?=some (.blk w.heap.size (.cells (Value.int .u8 (n:Int)).cells e)):=by
  rw [List.getElem?_append_right (Nat.le_refl _),Nat.sub_self]; rfl
 have hc:w'.cell? ⟨w.heap.size,0,none⟩=some (.int .u8 (n:Int)):=by rw [hI.cellL hi]; rfl
 have hl:=run_loadCells_list (P:=P) (w:=w') ⟨w.heap.size,0,none⟩ [.int .u8 (n:Int)] (fun j v hj=>by
  match j with
  | 0=>simp only [List.getElem?_cons_zero,Option.some.injEq] at hj; subst hj; rw [j7]; exact hc
  | j+1=>simp at hj)
 simp only [List.length_cons,List.length_nil] at hl
 refine Run.of (w':=w') ?_ (hk _ (hI.sub (List.sublist_append_left _ _)))
 simp [sOp,execOp,ev0,evE,convert,run_underlying he,run_underlying hb,run_underlying hD,Conv.bytesToString,hl,st]
 rfl
end
end
section
open Go Go.RowKit
theorem kW {s:Bs} {i:Nat} (h:i<s.length) (c:Nat):sgn s i c=decide (s[i].toNat=c):=by simp [sgn,List.getElem?_eq_getElem h]
theorem Od {s:Bs} {i:Nat} (h:¬ i<s.length) (c:Nat):sgn s i c=false:=by simp [sgn,List.getElem?_eq_none (Nat.le_of_not_lt h)]
theorem oa {s:Bs} {i:Nat} (h:i<s.length) (a b:Nat):btw s i a b=(decide (a<=s[i].toNat) && decide (s[i].toNat<=b)):=by simp [btw,List.getElem?_eq_getElem h]
theorem K8 {s:Bs} {i:Nat} (h:¬ i<s.length) (a b:Nat):btw s i a b=false:=by simp [btw,List.getElem?_eq_none (Nat.le_of_not_lt h)]
theorem Cs {s:Bs} {i a b:Nat} (h:btw s i a b=true):i<s.length:=by
 rcases Nat.lt_or_ge i s.length with h1|h1
 ·exact h1
 ·rw [K8 (by omega)] at h; cases h
theorem ik {s:Bs} {i c:Nat} (h:sgn s i c=true):i<s.length:=by
 rcases Nat.lt_or_ge i s.length with h1|h1
 ·exact h1
 ·rw [Od (by omega)] at h; cases h
section
attribute [local irreducible] Run CondV aB aS
theorem cL (s:Bs) (i c:Nat) (S:ae):Pure Tryz.prog J3 [.string (st s),.int .i64 (i:Int),.int .u8 (c:Int)] S (.bool (sgn s i c)):=by
 intro w hI
 refine zp.2 ?_
 dsimp only[zp,cX]
 refine oj (by omega) ?_
 refine rpG ?_
 refine fA aR ?_
 by_cases h:i<s.length
 ·refine Bp (by omega) ?_
  refine rpG ?_
  refine eB aR h ?_
  refine aY ?_
  refine rpG ?_
  refine done hI ?_
  rw [kW h]
  congr 1
  rw [decide_eq_decide]
  omega
 ·refine eM (by omega) ?_
  refine rpG ?_
  exact done hI (by rw [Od h])
theorem gU (s:Bs) (i:Nat) (S:ae):Pure Tryz.prog JG [.string (st s),.int .i64 (i:Int)] S (.bool (dig s i)):=by
 intro w hI
 refine vj.2 ?_
 dsimp only[vj,aX]
 refine oj (by omega) ?_
 refine rpG ?_
 refine fA aR ?_
 by_cases h:i<s.length
 ·refine Bp (by omega) ?_
  refine rpG ?_
  refine eB aR h ?_
  rw [dig,oa h]
  by_cases h2:48<=s[i].toNat
  ·refine oj (by omega) ?_
   refine rpG ?_
   refine eB aR h ?_
   refine eK ?_
   refine rpG ?_
   refine done hI ?_
   rw [decide_eq_true h2,Bool.true_and]
   congr 1
   rw [decide_eq_decide]
   omega
  ·refine ya (by omega) ?_
   refine rpG ?_
   exact done hI (by rw [decide_eq_false h2,Bool.false_and])
 ·refine eM (by omega) ?_
  refine rpG ?_
  exact done hI (by rw [dig,K8 h])
theorem oH (s:Bs) (i:Nat) (S:ae):Pure Tryz.prog IO [.string (st s),.int .i64 (i:Int)] S (.bool (sml s i)):=by
 intro w hI
 refine uQ.2 ?_
 dsimp only[uQ,aX]
 refine oj (by omega) ?_
 refine rpG ?_
 refine fA aR ?_
 by_cases h:i<s.length
 ·refine Bp (by omega) ?_
  refine rpG ?_
  refine eB aR h ?_
  rw [sml,oa h]
  by_cases h2:97<=s[i].toNat
  ·refine oj (by omega) ?_
   refine rpG ?_
   refine eB aR h ?_
   refine eK ?_
   refine rpG ?_
   refine done hI ?_
   rw [decide_eq_true h2,Bool.true_and]
   congr 1
   rw [decide_eq_decide]
   omega
  ·refine ya (by omega) ?_
   refine rpG ?_
   exact done hI (by rw [decide_eq_false h2,Bool.false_and])
 ·refine eM (by omega) ?_
  refine rpG ?_
  exact done hI (by rw [sml,K8 h])
end
theorem LZ {s:Bs} {i:Nat} (h:i<s.length):dig s i=true↔48<=s[i].toNat/\s[i].toNat<=57:=by
 rw [dig,oa h,Bool.and_eq_true,decide_eq_true_eq,decide_eq_true_eq]
theorem MX {d:Bs} {j:Nat} (h:j<d.length) (m:Nat):DH (d.drop j) m=DH (d.drop (j+1)) (m * 10+(d[j].toNat - 48)):=by
 rw [List.drop_eq_getElem_cons h,DH]
section
attribute [local irreducible] Run CondV aB aS
theorem Hb (d:Bs) (hd:∀ i,i<d.length->dig d i=true) (h0:0<d.length) (h4:d.length<=4) (hz:¬ (sgn d 0 48=true/\1<d.length)) (S:ae) :
  Pure Tryz.prog La [.string (st d)] S (.tuple #[.int .i64 ((DH d 0:Nat):Int),.bool true]):=by
 intro w hI
 refine zg.2 ?_
 dsimp only[zg,aO]
 have hd0:=(LZ h0).1 (hd 0 h0)
 refine ⟨fun t w'=>t=.bool false/\Inv w [] [] S w',?_,?_⟩
 ·refine fA aR ?_
  refine Kx (by omega) ?_
  refine rpG ?_
  refine eB (i:=0) aR h0 ?_
  refine eC (by omega) ?_
  refine rpG ?_
  exact ⟨rfl,hI⟩
 intro t4 _ _ _ _ _ _ _ _ w'
 rintro ⟨rfl,hI⟩
 refine ⟨fun t w'=>t=.string (st d)/\Inv w [] [] S w',?_,?_⟩
 ·exact az (fun hb=>by cases hb) (fun _=>⟨rfl,hI⟩)
 intro t0 _ _ _ w'
 rintro ⟨rfl,hI⟩
 refine ⟨fun t w'=>t=.bool false/\Inv w [] [] S w',?_,?_⟩
 ·refine fA aR ?_
  refine eC (by omega) ?_
  refine rpG ?_
  refine fA aR ?_
  refine jN (by omega) ?_
  refine rpG ?_
  refine eB (i:=0) aR h0 ?_
  by_cases hs:d[0].toNat=48
  ·refine fK (by omega) ?_
   refine rpG ?_
   refine fA aR ?_
   refine jN (by
    have:¬ 1<d.length:=fun h=>hz ⟨by rw [kW h0,hs]; rfl,h⟩
    omega) ?_
   refine rpG ?_
   exact ⟨rfl,hI⟩
  ·refine eC (by omega) ?_
   refine rpG ?_
   exact ⟨rfl,hI⟩
 intro t38 _ _ _ _ _ _ _ _ _ _ _ _ _ _ _ _ _ _ _ _ w'
 rintro ⟨rfl,hI⟩
 refine az (fun hb=>by cases hb) (fun _=>?_)
 refine ⟨fun i n w'=>∃ j m:Nat,j<=d.length/\i=.int .i64 j/\n=.int .i64 m/\m<10 ^ j/\DH (d.drop j) m=DH d 0/\Inv w [] [] S w',fun i _ _=>d.length - (intOf i).toNat,
  ⟨0,0,Nat.zero_le _,rfl,rfl,by simp,rfl,hI⟩,?_⟩
 intro t6 _ _ t5 _ _ _ _ _ _ _ _ _ _ _ _ _ _ _ _ _ _ _ _ _ _ _ _ w'
 rintro ⟨j,m,hj,rfl,rfl,hm,hval,hI⟩
 have hp:10 ^ j<=10 ^ 4:=Nat.pow_le_pow_right (by omega) (by omega)
 refine fA aR ?_
 refine bA ?_
 refine aI (fun hji=>?_) (fun hji=>?_)
 ·have hj':j<d.length:=by omega
  have hdj:=(LZ hj').1 (hd j hj')
  refine ⟨fun t w'=>t=.bool false/\Inv w [] [] S w',?_,?_⟩
  ·refine eB aR hj' ?_
   refine eM (by omega) ?_
   refine rpG ?_
   refine eB aR hj' ?_
   refine jN (by omega) ?_
   refine rpG ?_
   exact ⟨rfl,hI⟩
  intro t54 _ _ _ _ _ _ _ _ _ w'
  rintro ⟨rfl,hI⟩
  refine az (fun hb=>by cases hb) (fun _=>?_)
  refine zd (by omega) ?_
  refine eB aR hj' ?_
  refine Pa (c:=((d[j].toNat - 48:Nat):Int)) ?_ ?_
  ·rw [IntWalk.u8_in _ (by omega)]; omega
  refine pN fT eW (IntWalk.i64_in _ (by omega)) ?_
  refine bn (by omega) ?_
  refine bn (by omega) ?_
  refine ⟨⟨j+1,m * 10+(d[j].toNat - 48),hj',rfl,?_,?_,?_,hI⟩,by simp [intOf]; omega⟩
  ·congr 1
  ·rw [Nat.pow_succ]; omega
  ·rw [<- hval,MX hj']
 ·have:j=d.length:=by omega
  subst this
  rw [List.drop_length,DH] at hval
  refine ⟨fun t w'=>t=.int .i64 m/\Inv w [] [] S w',az (fun hb=>by cases hb) (fun _=>⟨rfl,hI⟩),?_⟩
  intro t5 _ _ _ w'
  rintro ⟨rfl,hI⟩
  exact done hI (by rw [hval])
abbrev Cx (k n:Int):Value:=.agg #[.int .i64 k,.int .i64 n,.string ⟨#[]⟩,.slice none 0 0]
theorem qe {w:World} {K:Value->World->Prop} {k n:Int} (hk:K (Cx k n) w):Run Tryz.prog (bW ab [(0,.int .i64 k),(1,.int .i64 n)]) w K:=by
 refine Run.of (v:=Cx k n) (w':=w) ?_ hk
 unfold bW
 rw [Sem.run_bind,run_build w ab _ #[.int .i64 k,.int .i64 n,.string ⟨#[]⟩,.slice none 0 0] (by kernel_rfl),Result.andThen_ok]
 rfl
theorem sW (n:Int) (S:ae):Pure Tryz.prog ML [.int .i64 n] S (Cx 1 n):=by
 intro w hI
 refine Ck.2 ?_
 dsimp only[Ck,aO]
 refine aG hI aP fun b w' hI=>?_
 refine qe ?_
 refine ao hI 0 rfl ac rfl rfl (by simp [Value.oneCell']) fun w' hI=>?_
 refine aW hI 0 ac rfl rfl ?_
 exact done hI rfl
theorem jj (n:Int) (S:ae):Pure Tryz.prog Nh [.int .i64 n] S (Cx 2 n):=by
 intro w hI
 refine Au.2 ?_
 dsimp only[Au,aO]
 refine aG hI aP fun b w' hI=>?_
 refine qe ?_
 refine ao hI 0 rfl ac rfl rfl (by simp [Value.oneCell']) fun w' hI=>?_
 refine aW hI 0 ac rfl rfl ?_
 exact done hI rfl
end
theorem I6 (s:Bs) (n e:Nat):ru s (n+1) e=if dig s e=true then ru s n (e+1) else e:=rfl
theorem Fy (s:Bs):∀ (n e:Nat),e<=ru s n e/\ru s n e<=e+n
 | 0,e=>by simp [ru]
 | n+1,e=>by
  rw [ru]
  split
  ·have:=Fy s n (e+1); omega
  ·omega
theorem wx (s:Bs):∀ (n e i:Nat),e<=i->i<ru s n e->dig s i=true
 | 0,e,i,h1,h2=>by simp [ru] at h2; omega
 | n+1,e,i,h1,h2=>by
  rw [ru] at h2
  split at h2
  ·rename_i h
   by_cases he:e=i
   ·subst he; exact h
   ·exact wx s n (e+1) i (by omega) h2
  ·omega
theorem E3 {s:Bs} {a b i:Nat} (hi:i<(cut s a b).length):∃ h:a+i<s.length,(cut s a b)[i]=s[a+i]/\a+i<b:=by
 have h1:(cut s a b).length=min b s.length - a:=by simp [cut]
 refine ⟨by omega,?_,by omega⟩
 simp [cut]
theorem EZ {s:Bs} {a b:Nat} (hb:b<=s.length):(cut s a b).length=b - a:=by simp [cut]; omega
theorem Qb {s:Bs} {a b i:Nat} (hi:i<(cut s a b).length):dig (cut s a b) i=dig s (a+i):=by
 obtain ⟨h,e,_⟩:=E3 hi
 rw [dig,dig,oa hi,oa h,e]
section
attribute [local irreducible] Run CondV aB aS
theorem AD {s:Bs} {i e:Nat} {t:T} (hn:Pi s i=some (t,e)) (hi:i<=100000) (S:ae) :
  ∃ n:Int,inI n/\t=.mk 2 n emptyB []/\i<=e/\e<=i+5/\Pure Tryz.prog EX [.string (st s),.int .i64 (i:Int)] S (.tuple #[Cx 2 n,.int .i64 (e:Int)]):=by
 unfold Pi at hn
 obtain ⟨fr,hfr⟩:∃ fr,fr=if sgn s i 45=true then i+1 else i:=⟨_,rfl⟩
 simp only [<- hfr] at hn
 obtain ⟨en,hen⟩:∃ en,en=ru s 4 fr:=⟨_,rfl⟩
 simp only [<- hen] at hn
 have hle:=Fy s 4 fr
 rw [<- hen] at hle
 have hfi:i<=fr/\fr<=i+1:=by rw [hfr]; split <;> omega
 split at hn
 ·cases hn
 rename_i hc
 simp only [not_or] at hc
 obtain ⟨hc1,hc2,hc3,hc4⟩:=hc
 simp only [Option.some.injEq,Prod.mk.injEq] at hn
 obtain ⟨rfl,rfl⟩:=hn
 have hdig:∀ j,j<(cut s fr en).length->dig (cut s fr en) j=true:=fun j hj=>by
  obtain ⟨h1,h2,h3⟩:=E3 hj
  rw [Qb hj]
  exact wx s 4 fr _ (by omega) (by rw [<- hen]; exact h3)
 have hlen0:0<(cut s fr en).length:=by
  cases he:cut s fr en with
  | nil=>exact absurd he hc1
  | cons a l=>simp
 have hen2:fr<en:=by
  obtain ⟨_,_,h3⟩:=E3 hlen0
  omega
 have hens:en<=s.length:=by
  have:=wx s 4 fr (en - 1) (by omega) (by rw [<- hen]; omega)
  have:=Cs this
  omega
 refine ⟨_,?_,rfl,by omega,by omega,?_⟩
 ·unfold inI; split <;> omega
 intro w hI
 refine si.2 ?_
 dsimp only[si,aX]
 refine aG hI aP fun b4 w' hI=>?_
 refine ⟨fun t w'=>t=.int .i64 (fr:Int)/\Inv w [] [.blk b4 (.cells #[.int .i64 0,.int .i64 0,.string ⟨#[]⟩,.slice none 0 0] ab)] S w',?_,?_⟩
 ·refine Run.callPure cV cU hI (cL s i 45 S) fun w' hI=>?_
  refine az (fun hb=>?_) (fun hb=>?_)
  ·refine bn (by omega) ?_
   rw [if_pos hb] at hfr
   exact ⟨by rw [hfr]; congr 1,hI⟩
  ·rw [if_neg (by rw [hb]; decide)] at hfr
   exact ⟨by rw [hfr],hI⟩
 intro t6 _ _ _ _ _ w'
 rintro ⟨rfl,hI⟩
 refine ⟨fun t w'=>∃ j:Nat,t=.int .i64 (j:Int)/\fr<=j/\j<=fr+4/\ru s (fr+4 - j) j=en/\Inv w [] [.blk b4 (.cells #[.int .i64 0,.int .i64 0,.string ⟨#[]⟩,.slice none 0 0] ab)] S w',fun t _=>fr+4 - (intOf t).toNat,
  ⟨fr,rfl,Nat.le_refl _,by omega,by rw [Nat.add_sub_cancel_left]; exact hen.symm,hI⟩,?_⟩
 intro t6 _ _ _ _ _ _ _ _ _ _ _ w'
 rintro ⟨j,rfl,hj1,hj2,hj3,hI⟩
 refine ⟨fun t w'=>t=.bool (dig s j && decide (j<fr+4))/\Inv w [] [.blk b4 (.cells #[.int .i64 0,.int .i64 0,.string ⟨#[]⟩,.slice none 0 0] ab)] S w',?_,?_⟩
 ·refine Run.callPure kl j8 hI (gU s j S) fun w' hI=>?_
  cases hdj:dig s j
  ·refine rpG ?_
   exact ⟨rfl,hI⟩
  ·refine rpG ?_
   refine bn (by omega) ?_
   refine bA ?_
   refine rpG ?_
   refine ⟨?_,hI⟩
   rw [Bool.true_and]
   congr 1
   rw [decide_eq_decide]
   omega
 intro t25 _ _ _ _ _ _ _ _ w'
 rintro ⟨rfl,hI⟩
 refine az (fun hb=>?_) (fun hb=>?_)
 ·rw [Bool.and_eq_true,decide_eq_true_eq] at hb
  refine bn (by omega) ?_
  refine ⟨⟨j+1,rfl,by omega,by omega,?_,hI⟩,by simp [intOf]; omega⟩
  rw [<- hj3,show fr+4 - j=(fr+4 - (j+1))+1 by omega,I6,if_pos hb.1]
 ·have hje:j=en:=by
   rw [<- hj3]
   by_cases h4:j=fr+4
   ·rw [h4,Nat.sub_self]; rfl
   ·rw [show fr+4 - j=(fr+4 - (j+1))+1 by omega,I6,if_neg]
    intro hd
    rw [hd,Bool.true_and,decide_eq_false_iff_not] at hb
    omega
  subst hje
  refine Cz aR (by omega) hens ?_
  refine Run.callPure Hx IK hI (Hb _ hdig hlen0 (by rw [EZ hens]; omega) hc2 S) fun w' hI=>?_
  obtain ⟨n,hn⟩:∃ n,n=DH (cut s fr j) 0:=⟨_,rfl⟩
  rw [<- hn]
  refine aj (v:=.int .i64 (n:Int)) rfl ?_
  refine aj (v:=.bool true) rfl ?_
  simp only [<- hn] at hc3 hc4 ⊢
  refine ⟨fun t w'=>t=.bool false/\Inv w [] [.blk b4 (.cells #[.int .i64 0,.int .i64 0,.string ⟨#[]⟩,.slice none 0 0] ab)] S w',?_,?_⟩
  ·refine bM ?_
   refine rpG ?_
   by_cases hfi':i<fr
   ·refine Kx (by omega) ?_
    refine rpG ?_
    refine aY ?_
    have:¬ n=0:=fun h=>hc3 ⟨hfi',h⟩
    rw [decide_eq_false (by omega)]
    refine rpG ?_
    refine jN (by omega) ?_
    refine rpG ?_
    exact ⟨rfl,hI⟩
   ·refine jN (by omega) ?_
    refine rpG ?_
    refine jN (by omega) ?_
    refine rpG ?_
    exact ⟨rfl,hI⟩
  intro t50 _ _ _ _ _ _ _ _ _ _ _ _ _ _ w'
  rintro ⟨rfl,hI⟩
  refine az (fun hb=>by cases hb) (fun _=>?_)
  refine ⟨fun t w'=>t=.int .i64 (if i<fr then -(n:Int) else n)/\Inv w [] [.blk b4 (.cells #[.int .i64 0,.int .i64 0,.string ⟨#[]⟩,.slice none 0 0] ab)] S w',?_,?_⟩
  ·refine dv ?_
   refine aI (fun hb=>?_) (fun hb=>?_)
   ·refine QV (by omega) ?_
    exact ⟨by rw [if_pos (by omega)],hI⟩
   ·exact ⟨by rw [if_neg (by omega)],hI⟩
  intro t8 _ _ _ _ _ w'
  rintro ⟨rfl,hI⟩
  refine Run.callPure nV ou hI (jj _ S) fun w' hI=>?_
  refine ao hI 0 rfl ac rfl rfl (by simp [Value.oneCell']) fun w' hI=>?_
  refine aW hI 0 ac rfl rfl ?_
  exact done hI rfl
end
theorem RdSl.some1 {α:Type} {S:ae} {k:Nat} {R:List Value->α->Prop} {v:Value} {xs:List α} (h:RdSl S k R v xs) (h0:0<xs.length):∃ b o cap,v=.slice (some ⟨b,o,none⟩) xs.length cap:=by
 obtain ⟨b,o,cap,c,E,fz,e,_,_⟩:=h.at_ h0
 exact ⟨b,o,cap,e⟩
theorem Hw (s:Bs) (n e:Nat):zJ s (n+1) e=if sml s e=true then zJ s n (e+1) else e:=rfl
def LS (o:Option (Bs × Nat)):Value:=match o with
 | none=>.tuple #[.string ⟨#[]⟩,.int .i64 (-1)]
 | some (n,e)=>.tuple #[.string (st n),.int .i64 (e:Int)]
theorem KE (s:Bs) (i:Nat) {j:Nat} (h:j<signs.length) (b:Bs):iJ s i (signs.drop j) b=iJ s i (signs.drop (j+1)) (if decide (i+signs[j].size<=s.length)=true/\cut s i (i+signs[j].size)=bs signs[j]/\b.length<signs[j].size then bs signs[j] else b):=by
 rw [List.drop_eq_getElem_cons h,iJ]
theorem JC:∀ x∈signs,x.size<=3:=by decide
section
attribute [local irreducible] Run CondV aB aS
theorem ut {s:Bs} {i:Nat} (hi:i<s.length) (hs:s.length<=100000) (S:ae):Pure Tryz.prog KA [.string (st s),.int .i64 (i:Int)] S (LS (uI s i)):=by
 intro w hI
 refine zm.2 ?_
 dsimp only[zm,aX]
 obtain ⟨E,hE⟩:∃ E,E=zJ s (s.length - i) i:=⟨_,rfl⟩
 have hnm:uI s i=if i+6<E then none else if i<E then some (cut s i E,E) else if iJ s i signs []=[] then none else some (iJ s i signs [],i+(iJ s i signs []).length):=by
  rw [uI,<- hE]
 refine ⟨fun t w'=>∃ e:Nat,t=.int .i64 (e:Int)/\i<=e/\e<=s.length/\zJ s (s.length - e) e=E/\Inv w [] [] S w',fun t _=>s.length - (intOf t).toNat,⟨i,rfl,Nat.le_refl _,by omega,hE.symm,hI⟩,?_⟩
 intro t6 _ _ _ _ _ w'
 rintro ⟨e,rfl,he1,he2,he3,hI⟩
 refine Run.callPure vu un hI (oH s e S) fun w' hI=>?_
 refine az (fun hb=>?_) (fun hb=>?_)
 ·have hlt:=Cs hb
  refine bn (by omega) ?_
  refine ⟨⟨e+1,rfl,by omega,by omega,?_,hI⟩,by simp [intOf]; omega⟩
  rw [<- he3,show s.length - e=(s.length - (e+1))+1 by omega,Hw,if_pos hb]
 have heE:e=E:=by
  rw [<- he3]
  by_cases h:e=s.length
  ·rw [h,Nat.sub_self,zJ]
  ·rw [show s.length - e=(s.length - (e+1))+1 by omega,Hw,if_neg (by rw [hb]; decide)]
 subst heE
 refine bn (by omega) ?_
 refine dv ?_
 refine aI (fun hb=>done hI (by rw [hnm,if_pos (by omega)]; rfl)) (fun hb=>?_)
 rw [if_neg (by omega)] at hnm
 refine dv ?_
 refine aI (fun hb=>?_) (fun hb=>?_)
 ·refine Cz aR (by omega) (by omega) ?_
  exact done hI (by rw [hnm,if_pos (by omega)]; rfl)
 rw [if_neg (by omega)] at hnm
 refine Run.call0 uZ vI hI (sL S) fun v I' S1 w'=>?_
 rintro ⟨rfl,hle,hr⟩ _ hI
 obtain ⟨b,o,cap,rfl⟩:=RdSl.some1 hr (by decide)
 refine ⟨fun t u w'=>∃ (j:Nat) (best:Bs),j<=signs.length/\t=.int .i64 (j:Int)/\u=.string (st best)/\best.length<=3/\iJ s i (signs.drop j) best=iJ s i signs []/\Inv w [] [] S1 w',fun t _ _=>signs.length - (intOf t).toNat,
  ⟨0,[],Nat.zero_le _,rfl,rfl,by simp,rfl,hI.nil⟩,?_⟩
 intro t9 _ _ t7 _ _ _ _ t65 t64 t63 t62 t61 t60 t59 t58 t57 t56 t55 t54 t53 t52 t51 t50 t49 t48 t47 t46 t45 t44 t43 t42 t41 _ _ _ _ _ _ _ _ _ _ w'
 rintro ⟨j,best,hj0,rfl,rfl,hbl,hbest,hI⟩
 have h15:signs.length=15:=rfl
 refine aD hr cg ?_
 refine bA ?_
 refine aI (fun hji=>?_) (fun hji=>?_)
 ·have hj:j<signs.length:=by omega
  obtain ⟨x,hx⟩:∃ x,x=signs[j]:=⟨_,rfl⟩
  have hx3:x.size<=3:=by rw [hx]; exact JC _ (List.getElem_mem hj)
  obtain ⟨b',o',cap',c,E',fz,hsl,hS,hR⟩:=hr.at_ hj
  cases hsl
  have hcx:c[o+j * 1]?=some (.string x):=by rw [hx]; exact ar hR 0 _ rfl
  rw [KE s i hj,<- hx] at hbest
  refine ⟨fun u w'=>∃ best',u=.string (st best')/\best'.length<=3/\iJ s i (signs.drop (j+1)) best'=iJ s i signs []/\Inv w [] [] S1 w',?_,?_⟩
  ·refine au cg hj ?_
   refine cz aJ ((hI.cellS hS).trans hcx) ?_
   refine gq aR ?_
   by_cases hlen:i+x.size<=s.length
   ·cases hq:decide (st (cut s i (i+x.size))=x)
    ·skip
     refine ⟨fun D Aw Co tH tK vZ tN tM sY rH tE rB sB pj lp ro rZ rN pm jK mh kw lW jJ j1 jG w_=>Fx D 0 [jG=.int .i64 (i:Int),j1=.int .i64 (x.size:Int),jJ=.int .i64 ((i+x.size:Nat):Int),lW=.string (st s),kw=.int .i64 (s.length:Int),mh=.bool true,jK=.bool true,pm=.string (st s),rN=.int .i64 (i:Int),rZ=.int .i64 (i:Int),ro=.int .i64 (x.size:Int),lp=.int .i64 ((i+x.size:Nat):Int),pj=.string (st (cut s i (i+x.size))),sB=.slice (some ⟨b,o,none⟩) signs.length cap,rB=.int .i64 (j:Int),tE=.pointer (some ⟨b,o+j * 1,none⟩),rH=.string x,sY=.bool false,tM=.bool false,tN=.bool false,vZ=undef,tK=undef,tH=undef,Co=undef,Aw=.bool false]/\Inv w [] [] S1 w_,⟨Fx.nil _ _,hI.draw⟩,⟨?_,?_,?_,?_,?_,?_,?_,?_,?_,?_,?_,?_,?_,?_,?_,?_,?_,?_,?_,?_,?_,?_,?_,?_,?_,trivial⟩,?_⟩
     all_goals (intro D bo; intros; rename_i Aw Co tH tK vZ tN tM sY rH tE rB sB pj lp ro rZ rN pm jK mh kw lW jJ j1 jG w_ hA_; have hF_:=hA_.1; obtain ⟨⟨bU,bV,bH,bR,bZ,bI,bB,ct,cF,cK,bG,bX,cI,dq,cC,dA,dH,dV,fu,ew,fP,iq,mK,qJ,Ja,_⟩,hI⟩:=hA_)
     ·exact ⟨hF_.set 0 rfl,hI⟩
     ·exact ⟨hF_.set 1 rfl,hI⟩
     ·obtain rfl:=bU ‹_›
      obtain rfl:=bV ‹_›
      refine bn (by omega) ?_
      exact ⟨hF_.set 2 rfl,hI⟩
     ·exact ⟨hF_.set 3 rfl,hI⟩
     ·obtain rfl:=bR ‹_›
      refine fA aR ?_
      exact ⟨hF_.set 4 rfl,hI⟩
     ·obtain rfl:=bH ‹_›
      obtain rfl:=bZ ‹_›
      refine Fj (by omega) ?_
      exact ⟨hF_.set 5 rfl,hI⟩
     ·obtain rfl:=bI ‹_›
      exact ⟨hF_.set 6 rfl,hI⟩
     ·obtain rfl:=bB ‹_›
      refine bj ?_
      exact ⟨hF_.set 7 rfl,hI⟩
     ·obtain rfl:=bB ‹_›
      refine bj ?_
      exact ⟨hF_.set 8 rfl,hI⟩
     ·obtain rfl:=bB ‹_›
      refine bj ?_
      exact ⟨hF_.set 9 rfl,hI⟩
     ·obtain rfl:=bB ‹_›
      refine bj ?_
      exact ⟨hF_.set 10 rfl,hI⟩
     ·obtain rfl:=cK ‹_›
      obtain rfl:=bG ‹_›
      obtain rfl:=bB ‹_›
      refine bj ?_; refine bn (by omega) ?_
      exact ⟨hF_.set 11 rfl,hI⟩
     ·obtain rfl:=ct ‹_›
      obtain rfl:=cF ‹_›
      obtain rfl:=bX ‹_›
      obtain rfl:=bB ‹_›
      refine bj ?_; refine Cz aR (by omega) (by omega) ?_
      exact ⟨hF_.set 12 rfl,hI⟩
     ·obtain rfl:=bB ‹_›
      refine bj ?_
      exact ⟨hF_.set 13 rfl,hI⟩
     ·obtain rfl:=bB ‹_›
      refine bj ?_
      exact ⟨hF_.set 14 rfl,hI⟩
     ·obtain rfl:=dq ‹_›
      obtain rfl:=cC ‹_›
      obtain rfl:=bB ‹_›
      refine bj ?_; refine au cg hj ?_
      exact ⟨hF_.set 15 rfl,hI⟩
     ·obtain rfl:=dA ‹_›
      obtain rfl:=bB ‹_›
      refine bj ?_; refine cz aJ ((hI.cellS hS).trans hcx) ?_
      exact ⟨hF_.set 16 rfl,hI⟩
     ·obtain rfl:=cI ‹_›
      obtain rfl:=dH ‹_›
      obtain rfl:=bB ‹_›
      refine bj ?_; refine bf ?_; rw [hq]
      exact ⟨hF_.set 17 rfl,hI⟩
     ·obtain rfl:=bB ‹_›
      obtain rfl:=dV ‹_›
      refine uf ?_
      exact ⟨hF_.set 18 rfl,hI⟩
     ·obtain rfl:=fu ‹_›
      exact ⟨hF_.set 19 rfl,hI⟩
     ·obtain rfl:=ew ‹_›
      refine ci (c:=false) (b:=true) (by decide) ?_
      exact ⟨hF_.set 20 rfl,hI⟩
     ·obtain rfl:=ew ‹_›
      refine ci (c:=false) (b:=true) (by decide) ?_
      exact ⟨hF_.set 21 rfl,hI⟩
     ·obtain rfl:=iq ‹_›
      obtain rfl:=ew ‹_›
      refine ci (c:=false) (b:=true) (by decide) ?_
      exact ⟨hF_.set 22 rfl,hI⟩
     ·obtain rfl:=fP ‹_›
      obtain rfl:=mK ‹_›
      obtain rfl:=ew ‹_›
      refine ci (c:=false) (b:=true) (by decide) ?_
      exact ⟨hF_.set 23 rfl,hI⟩
     ·obtain rfl:=ew ‹_›
      obtain rfl:=qJ ‹_›
      refine oA ?_
      exact ⟨hF_.set 24 rfl,hI⟩
     obtain ⟨rfl,rfl,rfl,rfl,rfl,rfl,rfl,rfl,rfl,rfl,rfl,rfl,rfl,rfl,rfl,rfl,rfl,rfl,rfl,rfl,rfl,rfl,rfl,rfl,rfl,_⟩:=hF_.all
     clear hF_ bU bV bH bR bZ bI bB ct cF cK bG bX cI dq cC dA dH dV fu ew fP iq mK qJ Ja
     refine az (fun hb=>by cases hb) (fun _=>?_)
     refine ⟨best,rfl,hbl,?_,hI⟩
     rw [if_neg] at hbest
     ·exact hbest
     ·rintro ⟨_,h2,_⟩
      rw [decide_eq_false_iff_not] at hq
      exact hq (by rw [h2])
    ·rw [decide_eq_true_eq] at hq
     have hq':=hq
     have hq:decide (st (cut s i (i+x.size))=x)=true:=decide_eq_true hq'
     skip
     refine ⟨fun D Aw Co tH tK vZ tN tM sY rH tE rB sB pj lp ro rZ rN pm jK mh kw lW jJ j1 jG w_=>Fx D 0 [jG=.int .i64 (i:Int),j1=.int .i64 (x.size:Int),jJ=.int .i64 ((i+x.size:Nat):Int),lW=.string (st s),kw=.int .i64 (s.length:Int),mh=.bool true,jK=.bool true,pm=.string (st s),rN=.int .i64 (i:Int),rZ=.int .i64 (i:Int),ro=.int .i64 (x.size:Int),lp=.int .i64 ((i+x.size:Nat):Int),pj=.string (st (cut s i (i+x.size))),sB=.slice (some ⟨b,o,none⟩) signs.length cap,rB=.int .i64 (j:Int),tE=.pointer (some ⟨b,o+j * 1,none⟩),rH=.string x,sY=.bool true,tM=.bool true,tN=.bool true,vZ=.int .i64 (x.size:Int),tK=.string (st best),tH=.int .i64 (best.length:Int),Co=.bool (decide ((best.length:Int)<(x.size:Int))),Aw=.bool (decide ((best.length:Int)<(x.size:Int)))]/\Inv w [] [] S1 w_,⟨Fx.nil _ _,hI.draw⟩,⟨?_,?_,?_,?_,?_,?_,?_,?_,?_,?_,?_,?_,?_,?_,?_,?_,?_,?_,?_,?_,?_,?_,?_,?_,?_,trivial⟩,?_⟩
     all_goals (intro D bo; intros; rename_i Aw Co tH tK vZ tN tM sY rH tE rB sB pj lp ro rZ rN pm jK mh kw lW jJ j1 jG w_ hA_; have hF_:=hA_.1; obtain ⟨⟨bU,bV,bH,bR,bZ,bI,bB,ct,cF,cK,bG,bX,cI,dq,cC,dA,dH,dV,fu,ew,fP,iq,mK,qJ,Ja,_⟩,hI⟩:=hA_)
     ·exact ⟨hF_.set 0 rfl,hI⟩
     ·exact ⟨hF_.set 1 rfl,hI⟩
     ·obtain rfl:=bU ‹_›
      obtain rfl:=bV ‹_›
      refine bn (by omega) ?_
      exact ⟨hF_.set 2 rfl,hI⟩
     ·exact ⟨hF_.set 3 rfl,hI⟩
     ·obtain rfl:=bR ‹_›
      refine fA aR ?_
      exact ⟨hF_.set 4 rfl,hI⟩
     ·obtain rfl:=bH ‹_›
      obtain rfl:=bZ ‹_›
      refine Fj (by omega) ?_
      exact ⟨hF_.set 5 rfl,hI⟩
     ·obtain rfl:=bI ‹_›
      exact ⟨hF_.set 6 rfl,hI⟩
     ·obtain rfl:=bB ‹_›
      refine bj ?_
      exact ⟨hF_.set 7 rfl,hI⟩
     ·obtain rfl:=bB ‹_›
      refine bj ?_
      exact ⟨hF_.set 8 rfl,hI⟩
     ·obtain rfl:=bB ‹_›
      refine bj ?_
      exact ⟨hF_.set 9 rfl,hI⟩
     ·obtain rfl:=bB ‹_›
      refine bj ?_
      exact ⟨hF_.set 10 rfl,hI⟩
     ·obtain rfl:=cK ‹_›
      obtain rfl:=bG ‹_›
      obtain rfl:=bB ‹_›
      refine bj ?_; refine bn (by omega) ?_
      exact ⟨hF_.set 11 rfl,hI⟩
     ·obtain rfl:=ct ‹_›
      obtain rfl:=cF ‹_›
      obtain rfl:=bX ‹_›
      obtain rfl:=bB ‹_›
      refine bj ?_; refine Cz aR (by omega) (by omega) ?_
      exact ⟨hF_.set 12 rfl,hI⟩
     ·obtain rfl:=bB ‹_›
      refine bj ?_
      exact ⟨hF_.set 13 rfl,hI⟩
     ·obtain rfl:=bB ‹_›
      refine bj ?_
      exact ⟨hF_.set 14 rfl,hI⟩
     ·obtain rfl:=dq ‹_›
      obtain rfl:=cC ‹_›
      obtain rfl:=bB ‹_›
      refine bj ?_; refine au cg hj ?_
      exact ⟨hF_.set 15 rfl,hI⟩
     ·obtain rfl:=dA ‹_›
      obtain rfl:=bB ‹_›
      refine bj ?_; refine cz aJ ((hI.cellS hS).trans hcx) ?_
      exact ⟨hF_.set 16 rfl,hI⟩
     ·obtain rfl:=cI ‹_›
      obtain rfl:=dH ‹_›
      obtain rfl:=bB ‹_›
      refine bj ?_; refine bf ?_; rw [hq]
      exact ⟨hF_.set 17 rfl,hI⟩
     ·obtain rfl:=bB ‹_›
      obtain rfl:=dV ‹_›
      refine uf ?_
      exact ⟨hF_.set 18 rfl,hI⟩
     ·obtain rfl:=fu ‹_›
      exact ⟨hF_.set 19 rfl,hI⟩
     ·obtain rfl:=ew ‹_›
      refine bj ?_
      exact ⟨hF_.set 20 rfl,hI⟩
     ·obtain rfl:=ew ‹_›
      refine bj ?_
      exact ⟨hF_.set 21 rfl,hI⟩
     ·obtain rfl:=iq ‹_›
      obtain rfl:=ew ‹_›
      refine bj ?_; refine fA aR ?_
      exact ⟨hF_.set 22 rfl,hI⟩
     ·obtain rfl:=fP ‹_›
      obtain rfl:=mK ‹_›
      obtain rfl:=ew ‹_›
      refine bj ?_; refine dv ?_
      exact ⟨hF_.set 23 rfl,hI⟩
     ·obtain rfl:=ew ‹_›
      obtain rfl:=qJ ‹_›
      refine uf ?_
      exact ⟨hF_.set 24 rfl,hI⟩
     obtain ⟨rfl,rfl,rfl,rfl,rfl,rfl,rfl,rfl,rfl,rfl,rfl,rfl,rfl,rfl,rfl,rfl,rfl,rfl,rfl,rfl,rfl,rfl,rfl,rfl,rfl,_⟩:=hF_.all
     clear hF_ bU bV bH bR bZ bI bB ct cF cK bG bX cI dq cC dA dH dV fu ew fP iq mK qJ Ja
     have hcut:cut s i (i+x.size)=bs x:=by rw [<- Eu (cut s i (i+x.size)),hq']
     refine aI (fun hb=>?_) (fun hb=>?_)
     ·refine au cg hj ?_
      refine cz aJ ((hI.cellS hS).trans hcx) ?_
      refine ⟨bs x,rfl,by rw [<- hcut,EZ hlen]; omega,?_,hI⟩
      rw [if_pos ⟨decide_eq_true hlen,hcut,by omega⟩] at hbest
      exact hbest
     ·refine ⟨best,rfl,hbl,?_,hI⟩
      rw [if_neg] at hbest
      ·exact hbest
      ·rintro ⟨_,_,h3⟩
       omega
   ·skip
    refine ⟨fun D Aw Co tH tK vZ tN tM sY rH tE rB sB pj lp ro rZ rN pm jK mh kw lW jJ j1 jG w_=>Fx D 0 [jG=.int .i64 (i:Int),j1=.int .i64 (x.size:Int),jJ=.int .i64 ((i+x.size:Nat):Int),lW=.string (st s),kw=.int .i64 (s.length:Int),mh=.bool false,jK=.bool false,pm=undef,rN=undef,rZ=undef,ro=undef,lp=undef,pj=undef,sB=undef,rB=undef,tE=undef,rH=undef,sY=undef,tM=.bool false,tN=.bool false,vZ=undef,tK=undef,tH=undef,Co=undef,Aw=.bool false]/\Inv w [] [] S1 w_,⟨Fx.nil _ _,hI.draw⟩,⟨?_,?_,?_,?_,?_,?_,?_,?_,?_,?_,?_,?_,?_,?_,?_,?_,?_,?_,?_,?_,?_,?_,?_,?_,?_,trivial⟩,?_⟩
    all_goals (intro D bo; intros; rename_i Aw Co tH tK vZ tN tM sY rH tE rB sB pj lp ro rZ rN pm jK mh kw lW jJ j1 jG w_ hA_; have hF_:=hA_.1; obtain ⟨⟨bU,bV,bH,bR,bZ,bI,bB,ct,cF,cK,bG,bX,cI,dq,cC,dA,dH,dV,fu,ew,fP,iq,mK,qJ,Ja,_⟩,hI⟩:=hA_)
    ·exact ⟨hF_.set 0 rfl,hI⟩
    ·exact ⟨hF_.set 1 rfl,hI⟩
    ·obtain rfl:=bU ‹_›
     obtain rfl:=bV ‹_›
     refine bn (by omega) ?_
     exact ⟨hF_.set 2 rfl,hI⟩
    ·exact ⟨hF_.set 3 rfl,hI⟩
    ·obtain rfl:=bR ‹_›
     refine fA aR ?_
     exact ⟨hF_.set 4 rfl,hI⟩
    ·obtain rfl:=bH ‹_›
     obtain rfl:=bZ ‹_›
     refine Oh (by omega) ?_
     exact ⟨hF_.set 5 rfl,hI⟩
    ·obtain rfl:=bI ‹_›
     exact ⟨hF_.set 6 rfl,hI⟩
    ·obtain rfl:=bB ‹_›
     refine ci (c:=false) (b:=true) (by decide) ?_
     exact ⟨hF_.set 7 rfl,hI⟩
    ·obtain rfl:=bB ‹_›
     refine ci (c:=false) (b:=true) (by decide) ?_
     exact ⟨hF_.set 8 rfl,hI⟩
    ·obtain rfl:=bB ‹_›
     refine ci (c:=false) (b:=true) (by decide) ?_
     exact ⟨hF_.set 9 rfl,hI⟩
    ·obtain rfl:=bB ‹_›
     refine ci (c:=false) (b:=true) (by decide) ?_
     exact ⟨hF_.set 10 rfl,hI⟩
    ·obtain rfl:=cK ‹_›
     obtain rfl:=bG ‹_›
     obtain rfl:=bB ‹_›
     refine ci (c:=false) (b:=true) (by decide) ?_
     exact ⟨hF_.set 11 rfl,hI⟩
    ·obtain rfl:=ct ‹_›
     obtain rfl:=cF ‹_›
     obtain rfl:=bX ‹_›
     obtain rfl:=bB ‹_›
     refine ci (c:=false) (b:=true) (by decide) ?_
     exact ⟨hF_.set 12 rfl,hI⟩
    ·obtain rfl:=bB ‹_›
     refine ci (c:=false) (b:=true) (by decide) ?_
     exact ⟨hF_.set 13 rfl,hI⟩
    ·obtain rfl:=bB ‹_›
     refine ci (c:=false) (b:=true) (by decide) ?_
     exact ⟨hF_.set 14 rfl,hI⟩
    ·obtain rfl:=dq ‹_›
     obtain rfl:=cC ‹_›
     obtain rfl:=bB ‹_›
     refine ci (c:=false) (b:=true) (by decide) ?_
     exact ⟨hF_.set 15 rfl,hI⟩
    ·obtain rfl:=dA ‹_›
     obtain rfl:=bB ‹_›
     refine ci (c:=false) (b:=true) (by decide) ?_
     exact ⟨hF_.set 16 rfl,hI⟩
    ·obtain rfl:=cI ‹_›
     obtain rfl:=dH ‹_›
     obtain rfl:=bB ‹_›
     refine ci (c:=false) (b:=true) (by decide) ?_
     exact ⟨hF_.set 17 rfl,hI⟩
    ·obtain rfl:=bB ‹_›
     obtain rfl:=dV ‹_›
     refine oA ?_
     exact ⟨hF_.set 18 rfl,hI⟩
    ·obtain rfl:=fu ‹_›
     exact ⟨hF_.set 19 rfl,hI⟩
    ·obtain rfl:=ew ‹_›
     refine ci (c:=false) (b:=true) (by decide) ?_
     exact ⟨hF_.set 20 rfl,hI⟩
    ·obtain rfl:=ew ‹_›
     refine ci (c:=false) (b:=true) (by decide) ?_
     exact ⟨hF_.set 21 rfl,hI⟩
    ·obtain rfl:=iq ‹_›
     obtain rfl:=ew ‹_›
     refine ci (c:=false) (b:=true) (by decide) ?_
     exact ⟨hF_.set 22 rfl,hI⟩
    ·obtain rfl:=fP ‹_›
     obtain rfl:=mK ‹_›
     obtain rfl:=ew ‹_›
     refine ci (c:=false) (b:=true) (by decide) ?_
     exact ⟨hF_.set 23 rfl,hI⟩
    ·obtain rfl:=ew ‹_›
     obtain rfl:=qJ ‹_›
     refine oA ?_
     exact ⟨hF_.set 24 rfl,hI⟩
    obtain ⟨rfl,rfl,rfl,rfl,rfl,rfl,rfl,rfl,rfl,rfl,rfl,rfl,rfl,rfl,rfl,rfl,rfl,rfl,rfl,rfl,rfl,rfl,rfl,rfl,rfl,_⟩:=hF_.all
    clear hF_ bU bV bH bR bZ bI bB ct cF cK bG bX cI dq cC dA dH dV fu ew fP iq mK qJ Ja
    refine az (fun hb=>by cases hb) (fun _=>?_)
    refine ⟨best,rfl,hbl,?_,hI⟩
    rw [if_neg] at hbest
    ·exact hbest
    ·rintro ⟨h1,_⟩
     rw [decide_eq_true_eq] at h1
     exact hlen h1
  intro t7 _ _ _ _ _ _ _ _ _ _ _ _ _ _ _ _ _ _ _ _ _ _ _ _ _ _ _ _ _ _ _ _ _ _ _ w'
  rintro ⟨best',rfl,hbl',hb',hI⟩
  refine bn (by omega) ?_
  exact ⟨⟨j+1,best',hj,rfl,rfl,hbl',hb',hI⟩,by simp [intOf]; omega⟩
 ·have:j=signs.length:=by omega
  subst this
  rw [List.drop_length,iJ] at hbest
  rw [<- hbest] at hnm
  refine bf ?_
  refine aI (fun hb=>?_) (fun hb=>?_)
  ·have:best=[]:=by rw [<- Eu best,hb]
   exact gg hI hle (by rw [hnm,if_pos this]; rfl)
  ·have:¬ best=[]:=fun h=>hb (by rw [h])
   refine fA aR ?_
   refine bn (by omega) ?_
   exact gg hI hle (by rw [hnm,if_neg this]; rfl)
end
theorem xE (s:Bs) (i:Nat):∀ (l:List ByteArray) (b:Bs),(∀ x∈l,x.size<=3)->b.length<=3->i+b.length<=s.length->i+(iJ s i l b).length<=s.length/\(iJ s i l b).length<=3
 | [],b,_,h2,h3=>⟨h3,h2⟩
 | x::l,b,h1,h2,h3=>by
  rw [iJ]
  have hx:(bs x).length=x.size:=Array.length_toList
  split
  ·rename_i h
   exact xE s i l _ (fun y hy=>h1 y (List.mem_cons_of_mem _ hy)) (by rw [hx]; exact h1 x (List.mem_cons_self ..)) (by rw [hx]; exact of_decide_eq_true h.1)
  ·exact xE s i l _ (fun y hy=>h1 y (List.mem_cons_of_mem _ hy)) h2 h3
theorem LH (s:Bs):∀ (n e:Nat),e<=zJ s n e/\zJ s n e<=e+n
 | 0,e=>by simp [zJ]
 | n+1,e=>by
  rw [zJ]
  split
  ·have:=LH s n (e+1); omega
  ·omega
theorem uz {s:Bs} {i:Nat} {n:Bs} {e:Nat} (hi:i<s.length) (h:uI s i=some (n,e)):i<e/\e<=s.length/\n.length<=6/\n≠[]:=by
 have hl:=LH s (s.length - i) i
 have hb:=xE s i signs [] JC (by simp) (by simpa using Nat.le_of_lt hi)
 unfold uI at h
 simp only [] at h
 split at h
 ·cases h
 ·split at h
  ·simp only [Option.some.injEq,Prod.mk.injEq] at h
   obtain ⟨rfl,rfl⟩:=h
   rename_i h1 h2
   have hc:=EZ (s:=s) (a:=i) (b:=zJ s (s.length - i) i) (by omega)
   refine ⟨h2,by omega,by omega,fun h=>?_⟩
   rw [h] at hc
   simp at hc
   omega
  ·split at h
   ·cases h
   ·simp only [Option.some.injEq,Prod.mk.injEq] at h
    obtain ⟨rfl,rfl⟩:=h
    rename_i h3
    have:0<(iJ s i signs []).length:=by
     cases he:iJ s i signs [] with
     | nil=>exact absurd he h3
     | cons a l=>simp
    exact ⟨by omega,by omega,by omega,h3⟩
def opV (o:Option (Bs × Nat)) (i:Nat):Value:=match o with
 | none=>.tuple #[.string ⟨#[]⟩,.int .i64 (i:Int)]
 | some (n,e)=>.tuple #[.string (st n),.int .i64 (e:Int)]
theorem Pj {s:Bs} {i:Nat} {n:Bs} {e:Nat} (h:opF s i=some (n,e)):i<e/\e<=s.length/\n.length<=6/\n≠[]:=by
 unfold opF at h
 obtain ⟨fr,hfr⟩:∃ fr,fr=if sgn s i 32=true then i+1 else i:=⟨_,rfl⟩
 simp only [<- hfr] at h
 have hfi:i<=fr:=by rw [hfr]; split <;> omega
 split at h
 ·cases h
 rename_i hlt
 split at h
 ·cases h
 rename_i nm nx hnm
 obtain ⟨h1,h2,h3,h4⟩:=uz (by omega) hnm
 split at h
 ·cases h
 rename_i hc
 simp only [not_or,not_and,Bool.not_eq_false] at hc
 simp only [Option.some.injEq,Prod.mk.injEq] at h
 obtain ⟨rfl,rfl⟩:=h
 refine ⟨by split <;> omega,?_,h3,h4⟩
 split
 ·rename_i hw
  have:=ik (hc.2.2 hw)
  omega
 ·exact h2
section
attribute [local irreducible] Run CondV aB aS
theorem JV {s:Bs} {i:Nat} (hs:s.length<=100000) (hi:i<=s.length) (S:ae):Pure Tryz.prog N4 [.string (st s),.int .i64 (i:Int)] S (opV (opF s i) i):=by
 intro w hI
 refine EC.2 ?_
 dsimp only[EC,aX]
 obtain ⟨fr,hfr⟩:∃ fr,fr=if sgn s i 32=true then i+1 else i:=⟨_,rfl⟩
 have hfi:i<=fr/\fr<=i+1:=by rw [hfr]; split <;> omega
 obtain ⟨r,hr⟩:∃ r,r=opF s i:=⟨_,rfl⟩
 rw [<- hr]
 unfold opF at hr
 simp only [<- hfr] at hr
 refine ⟨fun t w'=>t=.int .i64 (fr:Int)/\Inv w [] [] S w',?_,?_⟩
 ·refine Run.callPure cV cU hI (cL s i 32 S) fun w' hI=>?_
  refine az (fun hb=>?_) (fun hb=>?_)
  ·refine bn (by omega) ?_
   rw [if_pos hb] at hfr
   exact ⟨by rw [hfr]; congr 1,hI⟩
  ·rw [if_neg (by rw [hb]; decide)] at hfr
   exact ⟨by rw [hfr],hI⟩
 intro t6 _ _ _ _ _ w'
 rintro ⟨rfl,hI⟩
 refine fA aR ?_
 refine fY ?_
 refine aI (fun hb=>?_) (fun hb=>?_)
 ·rw [if_pos (by omega)] at hr
  exact done hI (by rw [hr]; rfl)
 rw [if_neg (by omega)] at hr
 refine Run.callPure zb yi hI (ut (by omega) hs S) fun w' hI=>?_
 cases hnm:uI s fr with
 | none=>
  rw [hnm] at hr
  simp only [] at hr
  simp only [LS]
  refine aj rfl ?_
  refine aj rfl ?_
  refine ⟨fun t w'=>t=.bool true/\Inv w [] [] S w',?_,?_⟩
  ·refine Bp (by omega) ?_
   refine rpG ?_
   exact ⟨rfl,hI⟩
  intro t33 _ _ _ _ _ _ w'
  rintro ⟨rfl,hI⟩
  exact az (fun _=>done hI (by rw [hr]; rfl)) (fun hb=>by cases hb)
 | some q=>
  obtain ⟨nm,nx⟩:=q
  rw [hnm] at hr
  simp only [] at hr
  obtain ⟨h1,h2,h3,h4⟩:=uz (by omega) hnm
  simp only [LS]
  refine aj (v:=.string (st nm)) rfl ?_
  refine aj (v:=.int .i64 (nx:Int)) rfl ?_
  refine ⟨fun t w'=>t=.bool (decide (cn (st nm)=0))/\Inv w [] [] S w',?_,?_⟩
  ·refine eM (by omega) ?_
   refine rpG ?_
   refine Run.callPure eF eH hI (dI _ S) fun w' hI=>?_
   refine aY ?_
   refine rpG ?_
   exact ⟨rfl,hI⟩
  intro t33 _ _ _ _ _ _ w'
  rintro ⟨rfl,hI⟩
  refine aI (fun hb=>?_) (fun hb=>?_)
  ·rw [if_pos (.inl hb)] at hr
   exact done hI (by rw [hr]; rfl)
  obtain ⟨word,hword⟩:∃ word,word=(decide (nm=[105,115]) || decide (nm=[109,111,100])):=⟨_,rfl⟩
  rw [<- hword] at hr
  refine ⟨fun t w'=>t=.bool word/\Inv w [] [] S w',?_,?_⟩
  ·refine BW (b:=[105,115]) ?_
   cases h5:decide (nm=[105,115])
   ·refine rpG ?_
    refine BW (b:=[109,111,100]) ?_
    refine rpG ?_
    exact ⟨by rw [hword,h5,Bool.false_or],hI⟩
   ·refine rpG ?_
    exact ⟨by rw [hword,h5,Bool.true_or],hI⟩
  intro t9 _ _ _ _ _ _ w'
  rintro ⟨rfl,hI⟩
  refine ⟨fun t w'=>t=.bool (decide (word≠decide (i<fr)) || (word && !sgn s nx 32))/\Inv w [] [] S w',?_,?_⟩
  ·refine dv ?_
   refine Gc l8 ?_
   have e1:decide ((i:Int)<(fr:Int))=decide (i<fr):=by rw [decide_eq_decide]; omega
   rw [e1]
   cases h6:decide (i<fr) <;> cases word
   ·refine rpG ?_
    exact ⟨by rfl,hI⟩
   ·refine rpG ?_
    exact ⟨by rfl,hI⟩
   ·refine rpG ?_
    exact ⟨by rfl,hI⟩
   ·refine rpG ?_
    refine Run.callPure cV cU hI (cL s nx 32 S) fun w' hI=>?_
    refine bM ?_
    refine rpG ?_
    exact ⟨by simp,hI⟩
  intro t54 _ _ _ _ _ _ _ _ _ _ _ _ _ w'
  rintro ⟨rfl,hI⟩
  refine az (fun hb'=>?_) (fun hb'=>?_)
  ·rw [if_pos] at hr
   ·exact done hI (by rw [hr]; rfl)
   ·rw [Bool.or_eq_true,decide_eq_true_eq,Bool.and_eq_true,Bool.not_eq_true'] at hb'
    exact .inr hb'
  ·rw [if_neg] at hr
   ·refine ⟨fun t w'=>t=.int .i64 ((if word=true then nx+1 else nx:Nat):Int)/\Inv w [] [] S w',?_,?_⟩
    ·refine az (fun hw=>?_) (fun hw=>?_)
     ·refine bn (by omega) ?_
      exact ⟨by rw [if_pos hw]; congr 1,hI⟩
     ·exact ⟨by rw [if_neg (by rw [hw]; decide)],hI⟩
    intro t8 _ _ _ w'
    rintro ⟨rfl,hI⟩
    exact done hI (by rw [hr]; rfl)
   ·rw [Bool.or_eq_false_iff,decide_eq_false_iff_not] at hb'
    rintro (h|h|⟨h,h'⟩)
    ·exact hb h
    ·exact hb'.1 h
    ·rw [h,h'] at hb'
     simp at hb'
end
end
section
open Go Go.RowKit
theorem Inv.pubExt {w0 w:World} {X:List Nat} {A:List Item} {S:ae} {L:bg} (h:Inv w0 X (A++bq L) S w) :
  ∃ S',Inv w0 X A S' w/\Ext w0.heap.size X S S'/\Ins S' L:=by
 obtain ⟨S',h1,h2,h3,h4⟩:=h.publishAll L
 refine ⟨S',h1,⟨h2,fun b o hb=>?_⟩,h3⟩
 rcases h4 b o hb with h5|h5
 ·exact .inl h5
 ·right
  exact h.new b (by rw [cw]; exact List.mem_append_right _ h5)
theorem Inv.pub1 {w0 w:World} {X:List Nat} {A:List Item} {S:ae} {b:Nat} {o:Obj} (h:Inv w0 X (A++[.blk b o]) S w) :
  ∃ S',Inv w0 X A S' w/\Ext w0.heap.size X S S'/\S' b=some o:=by
 obtain ⟨S',h1,h2,h3⟩:=Inv.pubExt (A:=A) (L:=[(b,o)]) h
 exact ⟨S',h1,h2,h3 _ (List.mem_singleton.2 rfl)⟩
theorem Rows.monoR {α:Type} {k:Nat} {R R':List Value->α->Prop} {css:List (List Value)} {ys:List α} (h:Rows k R css ys) (hR:∀ cs y,R cs y->R' cs y):Rows k R' css ys:=⟨h.hc,h.hk,fun i h1 h2=>hR _ _ (h.hR i h1 h2)⟩
theorem Rows.one {α:Type} {k:Nat} {R:List Value->α->Prop} {cs:List Value} {y:α} (hR:R cs y) (hl:cs.length=k):Rows k R [cs] [y]:=by
 have:=(Rows.nil k R).snoc hR hl
 exact this
section
variable {P:Program} {w w0:World} {X:List Nat} {L:List Item} {S:ae} {K:Value->World->Prop}
theorem Run.call0E {f:FuncId} {fn:Func} {args:List Value} {Post:Value->List Item->ae->Prop}
  (hf:P.funcs[f]?=some fn) (hn:(fn.name == "runtime.NumGoroutine" || fn.body.isNone)=false) (h:Inv w0 X L S w) (hc:Tri P f args [] S Post)
  (hk:∀ v I' S' w',Post v I' S'->Ext w0.heap.size X S S'->Inv w0 X (L++I') S' w'->K v w'):Run P (eA (.func (.func f) #[] #[]) args) w K:=by
 refine Run.callP hf hn ((hc w h.nil.begin).mono ?_)
 rintro e w' ⟨v,I',S',rfl,hI,hE,hP⟩
 refine hk v I' S' w' hP ⟨hE.1,fun b o hb=>?_⟩ (Inv.step (A:=L) (B:=[]) (by simpa using h) hI hE.2)
 rcases hE.2 b o hb with h1|h1|h1
 ·exact .inl h1
 ·simp [bE] at h1
 ·exact .inr (.inr (Nat.le_trans h.size h1))
end
theorem Ext.trans {n:Nat} {Y:List Nat} {S S' S'':ae} (h:Ext n Y S S') (h':Ext n Y S' S''):Ext n Y S S'':=by
 refine ⟨h.1.trans h'.1,fun b o hb=>?_⟩
 rcases h'.2 b o hb with h1|h1
 ·exact h.2 b o h1
 ·exact .inr h1
section
variable {P:Program} {w w0:World} {X:List Nat} {A I:List Item} {S:ae} {K:Value->World->Prop}
theorem Pp {f:FuncId} {args:List Value} {Post:Value->List Item->ae->Prop} (h:Inv w0 X (A++I) S w) (hc:Tri P f args I S Post) :
  Calls P f args.toArray w fun e w'=>∃ v I' S',e=.returned v/\Inv w0 X (A++I') S' w'/\Ext w0.heap.size X S S'/\Post v I' S':=by
 refine (hc w (h.sub (List.sublist_append_right A I)).begin).mono ?_
 rintro e w' ⟨v,I',S',rfl,hI,hE,hP⟩
 refine ⟨v,I',S',rfl,Inv.step h hI hE.2,⟨hE.1,fun b o hb=>?_⟩,hP⟩
 rcases hE.2 b o hb with h1|h1|h1
 ·exact .inl h1
 ·exact .inr (h.new b (by rw [cw]; exact List.mem_append_right _ h1))
 ·exact .inr (.inr (Nat.le_trans h.size h1))
theorem Run.callE {f:FuncId} {fn:Func} {args:List Value} {Post:Value->List Item->ae->Prop}
  (hf:P.funcs[f]?=some fn) (hn:(fn.name == "runtime.NumGoroutine" || fn.body.isNone)=false) (h:Inv w0 X (A++I) S w) (hc:Tri P f args I S Post)
  (hk:∀ v I' S' w',Post v I' S'->Ext w0.heap.size X S S'->Inv w0 X (A++I') S' w'->K v w'):Run P (eA (.func (.func f) #[] #[]) args) w K:=by
 refine Run.callP hf hn ((Pp h hc).mono ?_)
 rintro e w' ⟨v,I',S',rfl,hI,hE,hP⟩
 exact hk v I' S' w' hP hE hI
theorem Run.callVE {f:FuncId} {fn:Func} {cap args:List Value} {Post:Value->List Item->ae->Prop}
  (hf:P.funcs[f]?=some fn) (hn:(fn.name == "runtime.NumGoroutine" || fn.body.isNone)=false) (h:Inv w0 X (A++I) S w) (hc:Tri P f (args++cap) I S Post)
  (hk:∀ v I' S' w',Post v I' S'->Ext w0.heap.size X S S'->Inv w0 X (A++I') S' w'->K v w'):Run P (eA (fv f cap) args) w K:=by
 unfold Run
 rw [EU hf hn]
 refine (Pp h hc).mono ?_
 rintro e w' ⟨v,I',S',rfl,hI,hE,hP⟩
 exact hk v I' S' w' hP hE hI
end
theorem Inv.lendExt {w0 w:World} {X:List Nat} {A:List Item} {S:ae} {v:Value} {e:TypeId} {k:Nat} {css:List (List Value)} (h:Inv w0 X (A++[aL v e k css]) S w) :
  ∃ S',Ext w0.heap.size X S S'/\RowRd S' v e k css.length css.flatten/\Inv w0 X A S' w:=by
 obtain ⟨hl,ho⟩:=h.openRow
 rcases ho with ⟨rfl,h0⟩|⟨g,cap,cur,rfl,hnc,hcm,hcs,ht,hI⟩
 ·exact ⟨S,Ext.refl _ _ _,⟨hl,.inl ⟨rfl,h0⟩⟩,h.sub (List.sublist_append_left _ _)⟩
 ·obtain ⟨S',h1,h2,h3⟩:=Inv.pub1 (A:=A) hI
  exact ⟨S',h2,⟨hl,.inr ⟨g,cap,cur,rfl,h3,hnc,hcm,hcs,ht⟩⟩,h1⟩
end
end Go.Proofs.YtfcbhfjomgopbaaGreat
