/- spec.l4Copy, spec.l14Copy: clauses and programs copied. -/
import Derived.Test.YtbocelianhcfmaaGreatDoorZEg3
import Derived.Test.YtbocelianhcfmaaGreatDoorZEg2
namespace Go.Proofs.YtbocelianhcfmaaGreatDoor
section
open Go Go.RowKit
section
attribute [local irreducible] Run CondV ar aI
theorem C1 {c0:C} {S:ae} {cs:List Value} (h:RdC S cs c0) (hw:wC c0<=1048576):Tri Tryz.prog Hh [.agg cs.toArray] [] S (Qm S c0):=by
 intro w hI
 obtain ⟨hd,ks,rfl,h1,h2⟩:=h
 have h1':=h1
 obtain ⟨kv,rfl,g1,g2,g3,g4⟩:=RdT.iff.1 h1
 unfold wC at hw
 refine wM.2 ?_
 dsimp only[wM,aE]
 refine be hI fun b1 w' hI=>?_
 refine aA hI gX fun b2 w' hI=>?_
 refine ao dA ?_
 refine b0 hI 0 [.int .i64 c0.head.kind,.int .i64 c0.head.n,.string c0.head.name,kv] ac rfl rfl MA ?_
 refine Run.call0 eD eC hI (fu _ S _ h1' (by omega)) fun v' I' S w'=>?_
 rintro ⟨rfl,cs1,N,rfl,rfl,hT1⟩ _ hI
 obtain ⟨kh,rfl,_⟩:=TrT.iff.1 hT1
 refine xk ?_
 refine aA hI gX fun b3 w' hI=>?_
 have hI:=hI.perm (M:=.blk b1 _::.blk b2 _::.blk b3 _::bB N) (((List.perm_append_comm (l₁:=[_])).cons _).cons _)
 refine aj hI 2 rfl cD rfl rfl ?_ fun w' hI=>?_
 ·intro u hu
  have hu':u∈([.int .i64 c0.head.kind,.int .i64 c0.head.n,.string c0.head.name,kh,.slice none 0 0]:List Value):=hu
  simp at hu'
  have o1:kh.oneCell'=true:=hT1.one kh (by simp)
  rcases hu' with rfl|rfl|rfl|rfl|rfl <;> first|rfl|exact o1
 have hI:=hI.rowNil ab 4
 have hI:=hI.perm (M:=.blk b1 (.cells #[.int .i64 c0.head.kind,.int .i64 c0.head.n,.string c0.head.name,kv,ks] aQ)::.blk b2 (.cells #[.int .i64 0,.int .i64 0,.string ⟨#[]⟩,.slice none 0 0,.slice none 0 0] aQ)::.blk b3 (.cells #[.int .i64 c0.head.kind,.int .i64 c0.head.n,.string c0.head.name,kh,.slice none 0 0] aQ)::aP (.slice none 0 0) ab 4 []::bB N) ((((List.perm_append_comm (l₁:=[_])).cons _).cons _).cons _)
 refine ⟨fun i w'=>∃ (j:Nat) (kvc:Value) (Ls:List aV) (css:List (List Value)),j<=c0.body.length/\i=.int .i64 j/\Grown 4 TrT Ls css (c0.body.take j)/\
   Inv w [] (.blk b1 (.cells #[.int .i64 c0.head.kind,.int .i64 c0.head.n,.string c0.head.name,kv,ks] aQ)::.blk b2 (.cells #[.int .i64 0,.int .i64 0,.string ⟨#[]⟩,.slice none 0 0,.slice none 0 0] aQ)::.blk b3 (.cells #[.int .i64 c0.head.kind,.int .i64 c0.head.n,.string c0.head.name,kh,kvc] aQ)::aP kvc ab 4 css::bB (N::Ls).flatten) S w',
  fun i _=>c0.body.length - (intOf i).toNat,⟨0,_,[],[],Nat.zero_le _,rfl,Grown.nil _ _,by simp only [List.flatten_cons,List.flatten_nil,List.append_nil]; exact hI⟩,?_⟩
 intro t4 _ _ _ _ _ _ _ _ _ _ _ _ _ _ _ _ _ _ w'
 rintro ⟨j,kvc,Ls,css,hj,rfl,hg,hI⟩
 refine ad hI 0 rfl cC al rfl ?_
 refine aK h2 ah ?_
 refine bD ?_
 refine aN (fun hji=>?_) (fun hji=>?_)
 ·have hj':j<c0.body.length:=by omega
  have hjl:(c0.body.take j).length=j:=by simp; omega
  have hcl:=hg.hc
  have hm:=List.getElem_mem hj'
  have hwm:=kM hm
  obtain ⟨b,o,cap,c,E,fz,rfl,hS,hR⟩:=h2.at_ hj'
  refine ⟨fun D lf iT lY ni mD kX i6 lQ pJ mX Ca w_=>Fx D 0 [Ca=.pointer (some ⟨b3,4,none⟩),mX=kvc,pJ=.pointer (some ⟨b1,4,none⟩),lQ=.slice (some ⟨b,o,none⟩) (c0.body).length cap,i6=.int .i64 j,kX=.pointer (some ⟨b,o+j * 4,none⟩),mD=.agg (aL c (o+j * 4) 4).toArray,True,True,True,lf=.pointer (some ⟨b3,4,none⟩),True]/\∃ M cs7 b8,(D 7=true->ni=.agg cs7.toArray/\TrT M cs7 (c0.body)[j])/\(D 8=true->lY=.slice (some ⟨b8,0,none⟩) 1 1)/\(D 8=true->D 7=true)/\(D 9=true->D 8=true)/\(D 11=true->D 9=true)/\(D 11=true->D 1=true)/\Inv w [] (bg (.blk b1 (.cells #[.int .i64 c0.head.kind,.int .i64 c0.head.n,.string c0.head.name,kv,.slice (some ⟨b,o,none⟩) c0.body.length cap] aQ)) (.blk b2 (.cells #[.int .i64 0,.int .i64 0,.string ⟨#[]⟩,.slice none 0 0,.slice none 0 0] aQ)) (.blk b3 (.cells #[.int .i64 c0.head.kind,.int .i64 c0.head.n,.string c0.head.name,kh,kvc] aQ)) (.blk b3 (.cells #[.int .i64 c0.head.kind,.int .i64 c0.head.n,.string c0.head.name,kh,iT] aQ)) (aP kvc ab 4 css) (aP iT ab 4 (css++[cs7])) (bB (N::Ls).flatten) M (.blk b8 (.cells cs7.toArray ab)) (D 7) (D 8) (D 9) (D 11)) S w_,⟨Fx.nil _ _,⟨[],[],0,aT,aT,aT,aT,aT,aT,by simpa [bg,bB] using hI.draw⟩⟩,⟨?_,?_,?_,?_,?_,?_,?_,?_,?_,?_,?_,?_,trivial⟩,?_⟩
  all_goals (intro D bw; intros; rename_i lf iT lY ni mD kX i6 lQ pJ mX Ca w_ hA_; have hF_:=hA_.1; obtain ⟨⟨bQ,bS,bU,bR,bY,bZ,bO,cG,cS,cT,bL,co,_⟩,⟨M,cs7,b8,e7,e8,k8,k9,k11,k1,hI⟩⟩:=hA_)
  ·refine ao cC ?_
   exact ⟨hF_.set 0 rfl,⟨M,cs7,b8,e7,e8,k8,k9,k11,k1,hI⟩⟩
  ·obtain rfl:=bQ ‹_›
   have f11:D 11=false:=Bool.eq_false_iff.2 fun h=>by rw [k1 h] at bw; cases bw
   refine ax (b:=b3) hI 2 (c:=(#[.int .i64 c0.head.kind,.int .i64 c0.head.n,.string c0.head.name,kh,kvc])) al (by rw [f11]; rfl) rfl ?_
   have k1:=fun (_:aB D 1 11=true)=>(rfl:aB D 1 1=true)
   exact ⟨hF_.set 1 rfl,⟨M,cs7,b8,e7,e8,k8,k9,k11,k1,hI⟩⟩
  ·refine ao cC ?_
   exact ⟨hF_.set 2 rfl,⟨M,cs7,b8,e7,e8,k8,k9,k11,k1,hI⟩⟩
  ·obtain rfl:=bU ‹_›
   refine ax hI 0 al rfl rfl ?_
   exact ⟨hF_.set 3 rfl,⟨M,cs7,b8,e7,e8,k8,k9,k11,k1,hI⟩⟩
  ·exact ⟨hF_.set 4 rfl,⟨M,cs7,b8,e7,e8,k8,k9,k11,k1,hI⟩⟩
  ·obtain rfl:=bR ‹_›
   obtain rfl:=bY ‹_›
   refine ay ah hj' ?_
   exact ⟨hF_.set 5 rfl,⟨M,cs7,b8,e7,e8,k8,k9,k11,k1,hI⟩⟩
  ·obtain rfl:=bZ ‹_›
   refine ci ac hR.length (fun j v hj=>by rw [hI.cellS hS]; exact aD rfl j v hj) ?_
   exact ⟨hF_.set 6 rfl,⟨M,cs7,b8,e7,e8,k8,k9,k11,k1,hI⟩⟩
  ·obtain rfl:=bO ‹_›
   have f8:D 8=false:=Bool.eq_false_iff.2 fun h=>by rw [k8 h] at bw; cases bw
   have f9:D 9=false:=Bool.eq_false_iff.2 fun h=>by rw [k9 h] at f8; cases f8
   have f11:D 11=false:=Bool.eq_false_iff.2 fun h=>by rw [k11 h] at f9; cases f9
   rw [bw,f8,f9,f11] at hI
   refine Run.call0 eD eC hI (fu _ S _ hR (by omega)) fun v' I' S w_=>?_
   rintro ⟨rfl,cs7,M,rfl,rfl,hT⟩ _ hI
   have e7:aB D 7 7=true->Value.agg cs7.toArray=Value.agg cs7.toArray/\TrT M cs7 (c0.body)[j]:=fun _=>⟨rfl,hT⟩
   have k8:=fun (_:aB D 7 8=true)=>(rfl:aB D 7 7=true)
   have hI:Inv w [] (bg (.blk b1 (.cells #[.int .i64 c0.head.kind,.int .i64 c0.head.n,.string c0.head.name,kv,.slice (some ⟨b,o,none⟩) c0.body.length cap] aQ)) (.blk b2 (.cells #[.int .i64 0,.int .i64 0,.string ⟨#[]⟩,.slice none 0 0,.slice none 0 0] aQ)) (.blk b3 (.cells #[.int .i64 c0.head.kind,.int .i64 c0.head.n,.string c0.head.name,kh,kvc] aQ)) (.blk b3 (.cells #[.int .i64 c0.head.kind,.int .i64 c0.head.n,.string c0.head.name,kh,iT] aQ)) (aP kvc ab 4 css) (aP iT ab 4 (css++[cs7])) (bB (N::Ls).flatten) M (.blk b8 (.cells cs7.toArray ab)) true (D 8) (D 9) (D 11)) S w_:=by
    rw [f8,f9,f11]
    simpa [bg] using hI
   exact ⟨hF_.set 7 (by first|assumption|trivial),⟨M,cs7,b8,e7,e8,k8,k9,k11,k1,hI⟩⟩
  ·have GO:=cG ‹_›
   have f9:D 9=false:=Bool.eq_false_iff.2 fun h=>by rw [k9 h] at bw; cases bw
   have f11:D 11=false:=Bool.eq_false_iff.2 fun h=>by rw [k11 h] at f9; cases f9
   obtain ⟨q7,hT⟩:=e7 ‹D 7=true›
   subst q7
   rw [‹D 7=true›,bw,f9,f11] at hI
   refine dH hI bj (by simp [Value.cells,hT.length]) (by omega) (by omega) fun b8 w_ hI=>?_
   have e7:aB D 8 7=true->Value.agg cs7.toArray=Value.agg cs7.toArray/\TrT M cs7 (c0.body)[j]:=fun _=>⟨rfl,hT⟩
   have e8:=fun (_:aB D 8 8=true)=>(rfl:Value.slice (some ⟨b8,0,none⟩) 1 1=_)
   have k8:=fun (_:aB D 8 8=true)=>‹D 7=true›
   have k9:=fun (_:aB D 8 9=true)=>(rfl:aB D 8 8=true)
   have hI:Inv w [] (bg (.blk b1 (.cells #[.int .i64 c0.head.kind,.int .i64 c0.head.n,.string c0.head.name,kv,.slice (some ⟨b,o,none⟩) c0.body.length cap] aQ)) (.blk b2 (.cells #[.int .i64 0,.int .i64 0,.string ⟨#[]⟩,.slice none 0 0,.slice none 0 0] aQ)) (.blk b3 (.cells #[.int .i64 c0.head.kind,.int .i64 c0.head.n,.string c0.head.name,kh,kvc] aQ)) (.blk b3 (.cells #[.int .i64 c0.head.kind,.int .i64 c0.head.n,.string c0.head.name,kh,iT] aQ)) (aP kvc ab 4 css) (aP iT ab 4 (css++[cs7])) (bB (N::Ls).flatten) M (.blk b8 (.cells cs7.toArray ab)) (D 7) true (D 9) (D 11)) S w_:=by
    rw [‹D 7=true›,f9,f11]
    simpa [bg,Value.cells] using hI
   exact ⟨hF_.set 8 (by first|assumption|trivial),⟨M,cs7,b8,e7,e8,k8,k9,k11,k1,hI⟩⟩
  ·obtain rfl:=bS ‹_›
   have Bo:=cS ‹_›
   have f11:D 11=false:=Bool.eq_false_iff.2 fun h=>by rw [k11 h] at bw; cases bw
   have q8:=e8 ‹D 8=true›
   subst q8
   obtain ⟨_,hT⟩:=e7 ‹D 7=true›
   rw [‹D 7=true›,‹D 8=true›,bw,f11] at hI
   have hblk:((bg (.blk b1 (.cells #[.int .i64 c0.head.kind,.int .i64 c0.head.n,.string c0.head.name,kv,.slice (some ⟨b,o,none⟩) c0.body.length cap] aQ)) (.blk b2 (.cells #[.int .i64 0,.int .i64 0,.string ⟨#[]⟩,.slice none 0 0,.slice none 0 0] aQ)) (.blk b3 (.cells #[.int .i64 c0.head.kind,.int .i64 c0.head.n,.string c0.head.name,kh,mX] aQ)) (.blk b3 (.cells #[.int .i64 c0.head.kind,.int .i64 c0.head.n,.string c0.head.name,kh,iT] aQ)) (aP mX ab 4 css) (aP iT ab 4 (css++[cs7])) (bB (N::Ls).flatten) M (.blk b8 (.cells cs7.toArray ab)) true true false false))[4+(bB (N::Ls).flatten).length+(bB M).length]?=some (.blk b8 (.cells cs7.toArray ab)):=by
    have e4:4+(bB (N::Ls).flatten).length+(bB M).length=((bB (N::Ls).flatten).length+(bB M).length)+1+1+1+1:=by omega
    rw [e4]
    simp only [bg,List.getElem?_cons_succ]
    rw [List.getElem?_append_right (by omega),Nat.add_sub_cancel_left,List.getElem?_append_right (Nat.le_refl _),Nat.sub_self]; rfl
   refine eZ hI 3 cs7 bj (by omega) rfl (by rw [hT.length]) (m:=1) (o:=0) ?_ hT.one (by omega) (by omega) fun v' w_ hI=>?_
   ·intro i u hi
    rw [hI.cellL hblk,Nat.zero_add]
    simpa using hi
   rw [fS] at hI
   have k9:=fun (_:aB D 9 9=true)=>‹D 8=true›
   have k11:=fun (_:aB D 9 11=true)=>(rfl:aB D 9 9=true)
   have hI:Inv w [] (bg (.blk b1 (.cells #[.int .i64 c0.head.kind,.int .i64 c0.head.n,.string c0.head.name,kv,.slice (some ⟨b,o,none⟩) c0.body.length cap] aQ)) (.blk b2 (.cells #[.int .i64 0,.int .i64 0,.string ⟨#[]⟩,.slice none 0 0,.slice none 0 0] aQ)) (.blk b3 (.cells #[.int .i64 c0.head.kind,.int .i64 c0.head.n,.string c0.head.name,kh,mX] aQ)) (.blk b3 (.cells #[.int .i64 c0.head.kind,.int .i64 c0.head.n,.string c0.head.name,kh,v'] aQ)) (aP mX ab 4 css) (aP v' ab 4 (css++[cs7])) (bB (N::Ls).flatten) M (.blk b8 (.cells cs7.toArray ab)) (D 7) (D 8) true (D 11)) S w_:=by
    rw [‹D 7=true›,‹D 8=true›,f11]
    exact hI
   exact ⟨hF_.set 9 (by first|assumption|trivial),⟨M,cs7,b8,e7,e8,k8,k9,k11,k1,hI⟩⟩
  ·refine ao cC ?_
   exact ⟨hF_.set 10 rfl,⟨M,cs7,b8,e7,e8,k8,k9,k11,k1,hI⟩⟩
  ·obtain rfl:=bL ‹_›
   have GP:=cT ‹_›
   rw [‹D 7=true›,‹D 8=true›,‹D 9=true›,bw] at hI
   obtain ⟨va,vn,vc,hv9⟩:=Inv.rowSlice hI 3 rfl
   refine dB hI 2 (n:=1) (by rw [hv9]; rfl) (by decide +kernel) rfl (by simp) (by rw [hv9]; simp [Value.cells,Value.oneCell']) fun w_ hI=>?_
   have hcl9:Value.cells iT=#[iT]:=by rw [hv9]; rfl
   rw [hcl9] at hI
   have k1:=fun (_:aB D 11 11=true)=>‹D 1=true›
   have k11:=fun (_:aB D 11 11=true)=>‹D 9=true›
   have hI:Inv w [] (bg (.blk b1 (.cells #[.int .i64 c0.head.kind,.int .i64 c0.head.n,.string c0.head.name,kv,.slice (some ⟨b,o,none⟩) c0.body.length cap] aQ)) (.blk b2 (.cells #[.int .i64 0,.int .i64 0,.string ⟨#[]⟩,.slice none 0 0,.slice none 0 0] aQ)) (.blk b3 (.cells #[.int .i64 c0.head.kind,.int .i64 c0.head.n,.string c0.head.name,kh,kvc] aQ)) (.blk b3 (.cells #[.int .i64 c0.head.kind,.int .i64 c0.head.n,.string c0.head.name,kh,iT] aQ)) (aP kvc ab 4 css) (aP iT ab 4 (css++[cs7])) (bB (N::Ls).flatten) M (.blk b8 (.cells cs7.toArray ab)) (D 7) (D 8) (D 9) true) S w_:=by
    rw [‹D 7=true›,‹D 8=true›,‹D 9=true›]
    exact hI
   exact ⟨hF_.set 11 trivial,⟨M,cs7,b8,e7,e8,k8,k9,k11,k1,hI⟩⟩
  obtain ⟨rfl,rfl,rfl,rfl,rfl,rfl,rfl,GO,Bo,GP,rfl,_,_⟩:=hF_.all
  have Cs:D 7=true:=by assumption
  have z8:D 8=true:=by assumption
  have Fk:D 9=true:=by assumption
  have uL:D 11=true:=by assumption
  clear hF_ bQ bS bU bR bY bZ bO cG cS cT bL co
  obtain ⟨_,hT⟩:=e7 Cs
  rw [Cs,z8,Fk,uL] at hI
  refine bm (by omega) ?_
  refine ⟨⟨j+1,iT,Ls++[M],css++[cs7],hj',rfl,?_,?_⟩,by simp [intOf]; omega⟩
  ·rw [List.take_succ_eq_append_getElem hj']
   exact hg.snoc hT hT.length
  ·rw [<- List.cons_append,List.flatten_append,fj]
   simp only [List.flatten_cons,List.flatten_nil,List.append_nil]
   refine hI.sub ?_
   simp only [bg,List.flatten_cons]
   rw [<- List.append_assoc]
   exact (((List.sublist_append_left _ _).cons_cons _).cons_cons _).cons_cons _ |>.cons_cons _
 ·have:j=c0.body.length:=by omega
  subst this
  rw [List.take_length] at hg
  obtain ⟨va,vn,vc,hvk⟩:=hI.rowSlice 3 rfl
  have hv1:kvc.oneCell'=true:=by rw [hvk]; rfl
  have o1:kh.oneCell'=true:=hT1.one kh (by simp)
  refine ag hI 2 cD rfl rfl ?_
  refine aj hI 1 rfl cD rfl rfl ?_ fun w' hI=>?_
  ·intro u hu
   have hu':u∈([.int .i64 c0.head.kind,.int .i64 c0.head.n,.string c0.head.name,kh,kvc]:List Value):=hu
   simp at hu'
   rcases hu' with rfl|rfl|rfl|rfl|rfl <;> first|rfl|exact o1|exact hv1
  refine aS hI 1 cD rfl rfl ?_
  have hI:Inv w [] (aP kvc ab 4 css::bB (N::Ls).flatten) S w':=hI.sub (List.sublist_append_right [_,_,_] _)
  rw [List.flatten_cons,fj] at hI
  have hI:=hI.perm (M:=bB N++(aP kvc ab 4 css::bB Ls.flatten)) (List.perm_middle)
  obtain ⟨L,hT,hI⟩:=Inv.rowTree hI hg
  exact ⟨_,_,_,rfl,hI,Ext.refl _ _ _,rfl,_,N++L,rfl,by rw [fj],_,kvc,N,L,rfl,rfl,hT1,hT⟩
end
end
section
open Go Go.RowKit
section
variable {P:Program} {w w0:World} {X:List Nat} {L:List Item} {S:ae} {K:Value->World->Prop}
theorem Kx (h:Inv w0 X L S w) {T ty e:TypeId} {k by_ n cp:Nat} {z v:Value} {cs:List Bool} {xs:List Value} {a:Option Addr} (i:Nat)
  (hT:fb P T=some (e,k,by_,z)) (hi:L[i]?=some (.row v e k n xs)) (hk:K v w) :
  Run P (bx .append #[T,T] ty cs [v,.slice a 0 cp]) w K:=by
 obtain ⟨hu,inf,hi',hz,hs,hb,hzs⟩:=gZ hT
 have hown:=h.its _ (List.mem_of_getElem? hi)
 simp only [Item.holds] at hown
 refine Run.of (v:=v) (w':=w) ?_ hk
 rcases hown.2 with ⟨rfl,rfl⟩|⟨g,cap,cur,rfl,_,hg,hnc,hcm,hcs,ht⟩
 ·cases a <;> simp [bx,builtin,Builtin.append_,run_underlying hu,sizeOf,typeInfo,hi',Builtin.lenOf,Builtin.firstCells,loadCells,loadCellsFrom]
 ·cases a <;> simp [bx,builtin,Builtin.append_,run_underlying hu,sizeOf,typeInfo,hi',storeCells,hnc,Builtin.lenOf,Builtin.firstCells,loadCells,loadCellsFrom]
end
end
section
open Go Go.RowKit

structure Rows {α:Type} (k:Nat) (R:List Value->α->Prop) (css:List (List Value)) (ys:List α):Prop where
 hc:css.length=ys.length
 hk:∀ cs∈css,cs.length=k
 hR:∀ i (h:i<ys.length) (h1:i<css.length),R css[i] ys[i]
theorem Rows.nil {α:Type} (k:Nat) (R:List Value->α->Prop):Rows k R [] ([]:List α):=⟨rfl,by simp,fun i h=>by simp at h⟩
theorem Rows.snoc {α:Type} {k:Nat} {R:List Value->α->Prop} {css:List (List Value)} {ys:List α} (h:Rows k R css ys) {cs:List Value} {y:α} (hR:R cs y) (hl:cs.length=k):Rows k R (css++[cs]) (ys++[y]):=by
 refine ⟨by simp [h.hc],fun c hc=>?_,fun i h0 h2=>?_⟩
 ·rcases List.mem_append.1 hc with hc|hc
  ·exact h.hk c hc
  ·simp at hc; subst hc; exact hl
 ·have e2:=h.hc
  by_cases hi:i<ys.length
  ·rw [List.getElem_append_left (by omega),List.getElem_append_left hi]
   exact h.hR i hi (by omega)
  ·have:i=ys.length:=by simp at h0; omega
   subst this
   rw [List.getElem_append_right (by omega),List.getElem_append_right (by omega)]
   simp only [e2,Nat.sub_self,List.getElem_cons_zero]
   exact hR
theorem Rows.append {α:Type} {k:Nat} {R:List Value->α->Prop} {css css':List (List Value)} {ys ys':List α} (h:Rows k R css ys) (h':Rows k R css' ys'):Rows k R (css++css') (ys++ys'):=by
 have e:=h.hc
 have e':=h'.hc
 refine ⟨by simp [e,e'],fun c hc=>?_,fun i h0 h2=>?_⟩
 ·rcases List.mem_append.1 hc with hc|hc
  ·exact h.hk c hc
  ·exact h'.hk c hc
 ·by_cases hi:i<ys.length
  ·rw [List.getElem_append_left (by omega),List.getElem_append_left hi]
   exact h.hR i hi (by omega)
  ·have hi':i - css.length<ys'.length:=by simp at h0; omega
   rw [List.getElem_append_right (by omega),List.getElem_append_right (by omega)]
   have:=h'.hR (i - css.length) hi' (by omega)
   simpa only [e] using this
theorem RowRd.rows {α:Type} {S:ae} {v:Value} {e:TypeId} {k:Nat} {R:List Value->α->Prop} {css:List (List Value)} {ys:List α} (hr:Rows k R css ys) (h:RowRd S v e k css.length css.flatten):RdSl S k R v ys:=by
 obtain ⟨hl,h⟩:=h
 have hcy:=hr.hc
 rcases h with ⟨rfl,h0⟩|⟨g,cap,cur,rfl,hS,hnc,hcm,hcs,ht⟩
 ·have:ys=[]:=List.eq_nil_of_length_eq_zero (by omega)
  subst this
  exact ⟨none,0,rfl,Nat.le_refl _,Nat.zero_le _,.inl rfl⟩
 ·refine ⟨_,cap,by rw [hcy],by omega,hcm,.inr ⟨g,0,cur,e,(0,0),rfl,hS,fun i hi=>?_⟩⟩
  have:=fP k css i hr.hk (by omega)
  have hik:i * k+k<=css.length * k:=by rw [<- Nat.succ_mul]; exact Nat.mul_le_mul_right k (by omega)
  rw [<- ht,List.drop_take,List.take_take,Nat.min_eq_left (by omega)] at this
  rw [aL,Nat.zero_add,this]
  exact hr.hR i hi (by omega)
theorem xd {k:Nat}:∀ {css:List (List Value)},(∀ cs∈css,cs.length=k)->css.flatten.length=css.length * k
 | [],_=>by simp
 | c::css,h=>by
  have:=xd (css:=css) fun cs hc=>h cs (List.mem_cons_of_mem _ hc)
  rw [List.flatten_cons,List.length_append,h c (List.mem_cons_self ..),this,List.length_cons,Nat.succ_mul,Nat.add_comm]
section
variable {P:Program} {w w0:World} {X:List Nat} {L:List Item} {S:ae} {K:Value->World->Prop}
attribute [local irreducible] Run CondV ar aI
end
end
section
open Go Go.RowKit

theorem mt {P:Program} {T e:TypeId} {k:Nat} (h:ce P T=some (e,k)):P.underlying T=some (.slice e)/\∃ i,P.info? e=some i/\i.size=k:=by
 unfold ce at h
 split at h
 ·rename_i e1 he
  rw [Option.map_eq_some_iff] at h
  obtain ⟨i,hi,hx⟩:=h
  simp only [Prod.mk.injEq] at hx
  obtain ⟨rfl,rfl⟩:=hx
  exact ⟨he,i,hi,rfl⟩
 ·cases h
section
variable {P:Program} {w:World} {K:Value->World->Prop}
attribute [local irreducible] Run
theorem jl {n y:Nat} {code:BoundsCode} (h:n<=y):(Instr.sliceBound (.int .i64 n) y code).run P w=.ok n w:=by
 have h1:(0:Int)<=(n:Int)/\(n:Int)<=(y:Int):=by omega
 simp [Instr.sliceBound,asIntOf,h]
theorem Mw {T ty e:TypeId} {k h len cap:Nat} {a:Option Addr} (hT:ce P T=some (e,k)) (hh:h<=cap) (hk:K (.slice (if cap=0 then a else a.map (·.add (0 * k))) h cap) w) :
  Run P (sOp (.slice T (.const (.slice a len cap)) none (some (.const (.int .i64 h))) none) ty) w K:=by
 obtain ⟨hu,i,hi,_⟩:=mt hT
 refine Run.of ?_ hk
 simp [sOp,execOp,ev0,evE,Instr.sliceAt,Instr.slice,Instr.sliceBounds,run_underlying hu,jl hh,sizeOf,typeInfo,hi]
theorem Mp {T ty e:TypeId} {k l len cap:Nat} {a:Option Addr} (hT:ce P T=some (e,k)) (hl:l<=len) (hk:K (.slice (if cap=l then a else a.map (·.add (l * k))) (len - l) (cap - l)) w) :
  Run P (sOp (.slice T (.const (.slice a len cap)) (some (.const (.int .i64 l))) none none) ty) w K:=by
 obtain ⟨hu,i,hi,hs⟩:=mt hT
 refine Run.of ?_ hk
 simp [sOp,execOp,ev0,evE,Instr.sliceAt,Instr.slice,Instr.sliceBounds,run_underlying hu,jl hl,sizeOf,typeInfo,hi,hs]
theorem Od {T ty e:TypeId} {k l h len cap:Nat} {a:Option Addr} (hT:ce P T=some (e,k)) (hl:l<=h) (hh:h<=cap) (hk:K (.slice (if cap=l then a else a.map (·.add (l * k))) (h - l) (cap - l)) w) :
  Run P (sOp (.slice T (.const (.slice a len cap)) (some (.const (.int .i64 l))) (some (.const (.int .i64 h))) none) ty) w K:=by
 obtain ⟨hu,i,hi,hs⟩:=mt hT
 refine Run.of ?_ hk
 simp [sOp,execOp,ev0,evE,Instr.sliceAt,Instr.slice,Instr.sliceBounds,run_underlying hu,jl hl,jl hh,sizeOf,typeInfo,hi,hs]
end
theorem RdSl.to {α:Type} {S:ae} {k:Nat} {R:List Value->α->Prop} {a:Option Addr} {cap n h:Nat} {xs:List α} (hx:RdSl S k R (.slice a n cap) xs) (hh:h<=xs.length) :
  RdSl S k R (.slice (if cap=0 then a else a.map (·.add (0 * k))) h cap) (xs.take h):=by
 obtain ⟨a',cap',e,hl,hc,hx⟩:=hx
 simp only [Value.slice.injEq] at e
 obtain ⟨rfl,rfl,rfl⟩:=e
 have e1:(if cap=0 then a else a.map (·.add (0 * k)))=a:=by
  split
  ·rfl
  ·cases a <;> simp [Addr.add]
 rw [e1]
 have e2:h=(xs.take h).length:=by rw [List.length_take]; omega
 refine ⟨a,cap,by rw [<- e2],by omega,hc,?_⟩
 rcases hx with rfl|⟨b,o,c,E,fz,rfl,hS,hR⟩
 ·left; simp
 ·right
  refine ⟨b,o,c,E,fz,rfl,hS,fun i hi=>?_⟩
  rw [List.getElem_take]
  exact hR i (by omega)
theorem RdSl.from {α:Type} {S:ae} {k:Nat} {R:List Value->α->Prop} {a:Option Addr} {cap n l:Nat} {xs:List α} (hx:RdSl S k R (.slice a n cap) xs) (hl:l<=xs.length) :
  RdSl S k R (.slice (if cap=l then a else a.map (·.add (l * k))) (n - l) (cap - l)) (xs.drop l):=by
 obtain ⟨a',cap',e,hlc,hc,hx⟩:=hx
 simp only [Value.slice.injEq] at e
 obtain ⟨rfl,rfl,rfl⟩:=e
 refine ⟨_,cap - l,by rw [List.length_drop],by rw [List.length_drop]; omega,by omega,?_⟩
 by_cases hd:xs.drop l=[]
 ·exact .inl hd
 ·rcases hx with rfl|⟨b,o,c,E,fz,rfl,hS,hR⟩
  ·simp at hd
  ·right
   have hlt:l<xs.length:=by
    rcases Nat.lt_or_ge l xs.length with h|h
    ·exact h
    ·exact absurd (List.drop_eq_nil_of_le h) hd
   refine ⟨b,o+l * k,c,E,fz,?_,hS,fun i hi=>?_⟩
   ·rw [if_neg (by omega)]
    simp [Addr.add]
   ·rw [List.getElem_drop]
    have:=hR (l+i) (by simp at hi; omega)
    rwa [Nat.add_mul,<- Nat.add_assoc] at this
section
variable {P:Program} {w w0:World} {X:List Nat} {L:List Item} {S:ae} {K:Value->World->Prop}
attribute [local irreducible] Run CondV ar aI
theorem Bp {α:Type} {R:List Value->α->Prop} {xs:List α} {v:Value} {T ty e:TypeId} {k h:Nat} (hT:ce P T=some (e,k)) (hx:RdSl S k R v xs) (hh:h<=xs.length)
  (hk:∀ v',RdSl S k R v' (xs.take h)->K v' w):Run P (sOp (.slice T (.const v) none (some (.const (.int .i64 h))) none) ty) w K:=by
 obtain ⟨a,cap,rfl,hl,hc,hx'⟩:=id hx
 exact Mw hT (by omega) (hk _ (hx.to hh))
theorem io {α:Type} {R:List Value->α->Prop} {xs:List α} {v:Value} {T ty e:TypeId} {k l:Nat} (hT:ce P T=some (e,k)) (hx:RdSl S k R v xs) (hl:l<=xs.length)
  (hk:∀ v',RdSl S k R v' (xs.drop l)->K v' w):Run P (sOp (.slice T (.const v) (some (.const (.int .i64 l))) none none) ty) w K:=by
 obtain ⟨a,cap,rfl,hl',hc,hx'⟩:=id hx
 exact Mp hT hl (hk _ (hx.from hl))
end
theorem RdSl.exact {α:Type} {S:ae} {k:Nat} {R:List Value->α->Prop} {v:Value} {ys:List α} (h:RdSl S k R v ys) (hk:∀ cs y,R cs y->cs.length=k) :
  ∃ ds:List {cs:List Value // cs.length=k},RdSl S k (fun cs d=>cs=d.val) v ds/\Rows k R (ds.map (·.val)) ys:=by
 obtain ⟨a,cap,rfl,hl,hc,hx⟩:=h
 rcases hx with rfl|⟨b,o,c,E,fz,rfl,hS,hR⟩
 ·exact ⟨[],⟨a,cap,rfl,hl,hc,.inl rfl⟩,Rows.nil _ _⟩
 ·refine ⟨List.ofFn fun i:Fin ys.length=>⟨aL c (o+i.val * k) k,hk _ _ (hR i.val i.isLt)⟩,⟨_,cap,by rw [List.length_ofFn],by rw [List.length_ofFn]; exact hl,hc,.inr ⟨b,o,c,E,fz,rfl,hS,fun i hi=>by simp⟩⟩,⟨by simp,fun cs hcs=>?_,fun i h1 h2=>?_⟩⟩
  ·obtain ⟨d,_,rfl⟩:=List.mem_map.1 hcs
   exact d.property
  ·simp only [List.getElem_map,List.getElem_ofFn]
   exact hR i h1
section
variable {P:Program} {w w0:World} {X:List Nat} {L:List Item} {S:ae} {K:Value->World->Prop}
attribute [local irreducible] Run CondV ar aI
theorem dI {α:Type} {R:List Value->α->Prop} (h:Inv w0 X L S w) {T ty e:TypeId} {k by_:Nat} {z v u:Value} {cs:List Bool} {css:List (List Value)} {ys:List α} (i:Nat)
  (hT:fb P T=some (e,k,by_,z)) (hk0:0<k) (hi:L[i]?=some (aP v e k css)) (hr:RdSl S k R u ys) (hlen:∀ cs y,R cs y->cs.length=k) (h1:∀ cs y,R cs y->∀ c∈cs,c.oneCell'=true)
  (hfit:css.length+ys.length<=4294967296) (hby:by_<=32768) (hk:∀ v' w' css2,Rows k R css2 ys->Inv w0 X (L.set i (aP v' e k (css++css2))) S w'->K v' w') :
  Run P (bx .append #[T,T] ty cs [v,u]) w K:=by
 obtain ⟨ds,hd,hR⟩:=hr.exact hlen
 have hdl:ds.length=ys.length:=by have:=hR.hc; simpa using this
 have hone:∀ d∈ds,∀ c∈d.val,c.oneCell'=true:=by
  intro d hd' c hc
  obtain ⟨j,hj,rfl⟩:=List.mem_iff_getElem.1 hd'
  have:=hR.hR j (by omega) (by simpa using hj)
  simp only [List.getElem_map] at this
  exact h1 _ _ this c hc
 obtain ⟨a,cap,rfl,hl',hc',hx⟩:=id hd
 have e1:∀ v',Item.row v' e k (css.length+ds.length) (css.flatten++(ds.map (·.val)).flatten)=aP v' e k (css++ds.map (·.val)):=fun v'=>by simp [aP]
 rcases hx with rfl|⟨b,o,c,E,fz,rfl,hS,hel⟩
 ·refine Kx h i hT hi (hk v w [] (by simpa using hR) ?_)
  have:L.set i (aP v e k (css++[]))=L:=by
   obtain ⟨hlt,e'⟩:=List.getElem?_eq_some_iff.1 hi
   rw [List.append_nil,<- e',List.set_getElem_self]
  rw [this]
  exact h
 ·have hfl:(ds.map (·.val)).flatten.length=ds.length * k:=by
   rw [xd (k:=k) (fun cs hcs=>by obtain ⟨d,_,rfl⟩:=List.mem_map.1 hcs; exact d.property),List.length_map]
  refine eZ h i (ds.map (·.val)).flatten hT hk0 hi hfl ?_ ?_ (by omega) hby fun v' w' hI=>hk _ _ _ hR ?_
  ·intro j u hj
   have hj':j<ds.length * k:=by
    rw [<- hfl]
    exact (List.getElem?_eq_some_iff.1 hj).1
   have hq:j / k<ds.length:=(Nat.div_lt_iff_lt_mul hk0).2 hj'
   have hcell:=hel (j / k) hq
   have hflat:=fP k (ds.map (·.val)) (j / k) (fun cs hcs=>by obtain ⟨d,_,rfl⟩:=List.mem_map.1 hcs; exact d.property) (by simpa using hq)
   have hdm:=Nat.div_add_mod j k
   rw [Nat.mul_comm] at hdm
   rw [h.cellS hS]
   have e2:(ds.map (·.val)).flatten[j]?=(ds[j / k].val)[j % k]?:=by
    rw [List.getElem_map] at hflat
    rw [<- hflat,List.getElem?_take,if_pos (Nat.mod_lt _ hk0),List.getElem?_drop]
    congr 1
    omega
   rw [e2] at hj
   have:=aD hcell (j % k) u hj
   rw [<- this]
   congr 1
   omega
  ·intro u hu
   obtain ⟨cs,hcs,hu⟩:=List.mem_flatten.1 hu
   obtain ⟨d,hd',rfl⟩:=List.mem_map.1 hcs
   exact hone d hd' u hu
  ·rw [<- e1]
   exact hI
end
end
section
open Go Go.RowKit

abbrev Bs:=List UInt8
abbrev bs (s:ByteArray):Bs:=s.data.toList
abbrev st (l:Bs):ByteArray:=⟨l.toArray⟩
theorem yP (l:Bs):bs (st l)=l:=by simp [bs]
theorem gj (l:Bs):(st l).size=l.length:=by simp [ByteArray.size]

def sgn (s:Bs) (i:Nat) (c:Nat):Bool:=match s[i]? with
 | some b=>decide (b.toNat=c)
 | none=>false
def btw (s:Bs) (i:Nat) (a b:Nat):Bool:=match s[i]? with
 | some x=>decide (a<=x.toNat) && decide (x.toNat<=b)
 | none=>false
def sml (s:Bs) (i:Nat):Bool:=btw s i 97 122
def dig (s:Bs) (i:Nat):Bool:=btw s i 48 57
def upp (s:Bs) (i:Nat):Bool:=btw s i 65 90
def cut (s:Bs) (a b:Nat):Bs:=(s.take b).drop a

def xo (s:Bs):Nat->Nat->Nat
 | 0,e=>e
 | n+1,e=>if sml s e=true then xo s n (e+1) else e
def gG (s:Bs) (i:Nat):List ByteArray->Bs->Bs
 | [],b=>b
 | x::l,b=>gG s i l (if decide (i+x.size<=s.length)=true/\cut s i (i+x.size)=bs x/\b.length<x.size then bs x else b)
def sJ (s:Bs) (i:Nat):Option (Bs × Nat):=
 let e:=xo s (s.length - i) i
 if i+6<e then none else if i<e then some (cut s i e,e) else
  let b:=gG s i signs []
  if b=[] then none else some (b,i+b.length)
def pk (s:Bs):Nat->Nat->Nat
 | 0,e=>e
 | n+1,e=>if dig s e=true then pk s n (e+1) else e
def AK:Bs->Nat->Nat
 | [],n=>n
 | b::l,n=>AK l (n * 10+(b.toNat - 48))
def LA (s:Bs) (i:Nat):Option (T × Nat):=
 let from_:=if sgn s i 45=true then i+1 else i
 let e:=pk s 4 from_
 let d:=cut s from_ e
 let n:=AK d 0
 if d=[] ∨ (sgn d 0 48=true/\1<d.length) ∨ (i<from_/\n=0) ∨ 999<n then none
 else some (.mk 2 (if i<from_ then -(n:Int) else n) emptyB [],e)
def Gt (name:Bs) (kids:List T):T:=.mk 3 0 (st name) kids
def OV:T:=Gt [91,93] []
def GD (a b:T):T:=Gt [46] [a,b]
def g9:List T->T->T
 | [],t=>t
 | a::l,t=>GD a (g9 l t)
def opF (s:Bs) (i:Nat):Option (Bs × Nat):=
 let from_:=if sgn s i 32=true then i+1 else i
 if s.length<=from_ then none else match sJ s from_ with
  | none=>none
  | some (name,next)=>
   let word:=decide (name=[105,115]) || decide (name=[109,111,100])
   if aO (st name)=0 ∨ word≠decide (i<from_) ∨ (word=true/\sgn s next 32=false) then none
   else some (name,if word=true then next+1 else next)
mutual
def gw:Nat->Bs->Nat->Nat->Nat->Option (T × Nat)
 | 0,_,_,_,_=>none
 | f+1,s,i,d,0=>rf f s i d
 | f+1,s,i,d,l+1=>match gw f s i d l with
  | none=>none
  | some (t,n)=>EA f s n d l t
def EA:Nat->Bs->Nat->Nat->Nat->T->Option (T × Nat)
 | 0,_,_,_,_,_=>none
 | f+1,s,i,d,l,t=>match opF s i with
  | none=>some (t,i)
  | some (name,after)=>if aO (st name)=((l+1:Nat):Int) then match gw f s after d l with
    | none=>none
    | some (r,e)=>if l=2 then some (Gt name [t,r],e) else EA f s e d l (Gt name [t,r])
   else some (t,i)
def rf:Nat->Bs->Nat->Nat->Option (T × Nat)
 | 0,_,_,_=>none
 | f+1,s,i,d=>if d=0 ∨ s.length<=i then none else if sgn s i 40=true then match gw f s (i+1) d 3 with
    | none=>none
    | some (t,n)=>if sgn s n 41=true then some (t,n+1) else none
  else if sgn s i 91=true/\sgn s (i+1) 93=false then match ge f s (i+1) (d - 1) 93 124 [] with
    | none=>none
    | some (ts,n)=>if sgn s n 93=true then some (g9 ts OV,n+1) else match gw f s (n+1) (d - 1) 3 with
     | none=>none
     | some (t,e)=>if sgn s e 93=true then some (g9 ts t,e+1) else none
  else if upp s i=true then some (.mk 1 ((s.getD i 0).toNat - 65) emptyB [],i+1)
  else if dig s i=true ∨ (sgn s i 45=true/\dig s (i+1)=true) then LA s i
  else match sJ s i with
   | none=>none
   | some (name,n)=>if sgn s n 40=false then some (Gt name [],n) else match ge f s (n+1) (d - 1) 41 41 [] with
    | none=>none
    | some (ts,e)=>some (Gt name ts,e+1)
def ge:Nat->Bs->Nat->Nat->Nat->Nat->List T->Option (List T × Nat)
 | 0,_,_,_,_,_,_=>none
 | f+1,s,i,d,e,o,acc=>match gw f s i d 3 with
  | none=>none
  | some (t,n)=>if sgn s n e=true ∨ sgn s n o=true then some (acc++[t],n) else if sgn s n 44=true then ge f s (n+1) d e o (acc++[t]) else none
end

def de (t:T):Bool:=decide (t.kind=3) && (decide (t.kids.length=2) && decide (0<aO t.name))
def dz (t:T):Bool:=decide (t.kind=3) && (decide (t.name=st [46]) && decide (t.kids.length=2))
def ux (t:T):Bool:=decide (t.kind=3) && (decide (t.name=st [91,93]) && decide (t.kids.length=0))
def iS (t:T):Bool:=decide (t.kind=3) && (decide (t.kids.length=0) && decide (0<aO t.name))
def mu (s:Bs):Bool:=sml s 0 || (dig s 0 || (upp s 0 || (sgn s 0 91 || sgn s 0 40)))
def dh (n:Bs):Bs:=if n=[105,115] ∨ n=[109,111,100] then 32::(n++[32]) else n
def r8:Nat->Nat->Bs->Option Bs
 | 0,_,_=>none
 | f+1,n,out=>if 9<n then r8 f (n / 10) (UInt8.ofNat (48+n % 10)::out) else some (UInt8.ofNat (48+n)::out)
def AL (n:Int):Option Bs:=if n<0 then (r8 20 (-n).toNat []).map fun l=>45::l else r8 20 n.toNat []
def pH (t:T):Option Bs:=if t.kind=1 then (if 0<=t.n/\t.n<=25 then some [UInt8.ofNat (65+t.n.toNat)] else none)
 else if t.kind=2 then (if -999<=t.n/\t.n<=999 then AL t.n else none) else if t.kids.length=0 then some (bs t.name) else none
mutual
def nV:Nat->T->Option Bs
 | 0,_=>none
 | f+1,t=>if dz t=true then un f t [] else if de t=true then match t.kids with
   | [a,b]=>match BP f a (if aO t.name=3 then 2 else aO t.name),vt f b (aO t.name - 1) with
    | some x,some y=>some (x++dh (bs t.name)++y)
    | _,_=>none
   | _=>none
  else if t.kind=3/\0<t.kids.length then match jN f t.kids [] with
   | some x=>some (bs t.name++[40]++x++[41])
   | none=>none
  else pH t
def un:Nat->T->List T->Option Bs
 | 0,_,_=>none
 | f+1,t,items=>if dz t=true then match t.kids with
   | [a,b]=>un f b (items++[a])
   | _=>none
  else match jN f items [] with
   | none=>none
   | some x=>if ux t=true then some ([91]++x++[93]) else match nV f t with
    | none=>none
    | some y=>some ([91]++x++[124]++y++[93])
def jN:Nat->List T->Bs->Option Bs
 | 0,_,_=>none
 | _+1,[],out=>some out
 | f+1,t::l,out=>match nV f t with
  | none=>none
  | some x=>jN f l (out++x++(if l=[] then [] else [44]))
def jQ:Nat->T->Int->Option Bs
 | 0,_,_=>none
 | f+1,t,l=>match nV f t with
  | none=>none
  | some x=>some (if de t=true/\l<aO t.name then [40]++x++[41] else x)
def BP:Nat->T->Int->Option Bs
 | 0,_,_=>none
 | f+1,t,l=>if iS t=true then match nV f t with
   | none=>none
   | some x=>some ([40]++x++[41])
  else jQ f t l
def vt:Nat->T->Int->Option Bs
 | 0,_,_=>none
 | f+1,t,l=>match jQ f t l with
  | none=>none
  | some x=>if x=[] then none else some (if iS t=true ∨ mu x=false then [40]++x++[41] else x)
end
def wz (f:Nat):List T->Bool->Bs->Option Bs
 | [],_,out=>some out
 | t::l,first,out=>match nV f t with
  | none=>none
  | some x=>wz f l false (out++(if first=true then [58,45] else [44])++x)
def JS (f:Nat) (c:C):Option Bs:=match nV f c.head with
 | none=>none
 | some x=>match wz f c.body true x with
  | none=>none
  | some y=>some (y++[46])

def mB (f:Nat):Nat->Bs->Nat->List T->Option (List T × Nat)
 | 0,_,_,_=>none
 | k+1,s,i,acc=>if 6<acc.length then none else match gw f s i 30 3 with
  | none=>none
  | some (t,n)=>if sgn s n 44=true then mB f k s (n+1) (acc++[t]) else some (acc++[t],n)
def Ki (f:Nat) (s:Bs) (c:C) (n:Nat):Option C:=
 if n+1=s.length/\sgn s n 46=true/\dg c=true/\wC c<=200/\JS f c=some s then some c else none
def tO (f:Nat) (s:Bs):Option C:=if 1000<s.length then none else match gw f s 0 30 3 with
 | none=>none
 | some (h,n)=>if sgn s n 58=true/\sgn s (n+1) 45=true then match mB f 8 s (n+2) [] with
   | none=>none
   | some (b,n2)=>Ki f s ⟨h,b⟩ n2
  else Ki f s ⟨h,[]⟩ n
def Bj (s:Bs) (c:Nat):Nat->Nat->Nat->List Bs->List Bs
 | 0,i,from_,acc=>acc++[cut s from_ i]
 | n+1,i,from_,acc=>if sgn s i c=true then Bj s c n (i+1) (i+1) (acc++[cut s from_ i]) else Bj s c n (i+1) from_ acc
def Mm (s:Bs):List Bs:=Bj s 10 s.length 0 0 []
def jO (f:Nat):List Bs->List C->Option (List C)
 | [],acc=>some acc
 | l::ls,acc=>match tO f l with
  | none=>none
  | some c=>jO f ls (acc++[c])
def Jl (f:Nat) (s:Bs):Option (List C):=
 let ls:=Mm s
 if 21<ls.length ∨ ls.getLast?≠some [] then none else jO f ls.dropLast []
def Ms (s:Bs):Bool:=match Jl 60 s with
 | some p=>decide (0<p.length) && (decide (p.length<=8) && p.all fun c=>dg c && decide (wC c<=200))
 | none=>false
end
section
open Go Go.RowKit
section
variable {P:Program} {w w0:World} {X:List Nat} {L:List Item} {S:ae} {K:Value->World->Prop}
theorem yl {T:TypeId} {cx cy:Bool} {k:IntKind} {a b:Int} (h:a<b) (hk:K (.bool true) w):Run P (cq .lss T cx cy (.int k a) (.int k b)) w K:=by
 refine bD ?_
 rw [decide_eq_true h]
 exact hk
theorem dU {T:TypeId} {cx cy:Bool} {k:IntKind} {a b:Int} (h:¬ (a<b)) (hk:K (.bool false) w):Run P (cq .lss T cx cy (.int k a) (.int k b)) w K:=by
 refine bD ?_
 rw [decide_eq_false h]
 exact hk
theorem uG {T:TypeId} {cx cy:Bool} {k:IntKind} {a b:Int} (h:a<=b) (hk:K (.bool true) w):Run P (cq .leq T cx cy (.int k a) (.int k b)) w K:=by
 refine fi ?_
 rw [decide_eq_true h]
 exact hk
theorem DJ {T:TypeId} {cx cy:Bool} {k:IntKind} {a b:Int} (h:¬ (a<=b)) (hk:K (.bool false) w):Run P (cq .leq T cx cy (.int k a) (.int k b)) w K:=by
 refine fi ?_
 rw [decide_eq_false h]
 exact hk
theorem DG {T:TypeId} {cx cy:Bool} {k:IntKind} {a b:Int} (h:b<a) (hk:K (.bool true) w):Run P (cq .gtr T cx cy (.int k a) (.int k b)) w K:=by
 refine cY ?_
 rw [decide_eq_true h]
 exact hk
theorem gP {T:TypeId} {cx cy:Bool} {k:IntKind} {a b:Int} (h:¬ (b<a)) (hk:K (.bool false) w):Run P (cq .gtr T cx cy (.int k a) (.int k b)) w K:=by
 refine cY ?_
 rw [decide_eq_false h]
 exact hk
theorem iO {T:TypeId} {cx cy:Bool} {k:IntKind} {a b:Int} (h:b<=a) (hk:K (.bool true) w):Run P (cq .geq T cx cy (.int k a) (.int k b)) w K:=by
 refine iu ?_
 rw [decide_eq_true h]
 exact hk
theorem l5 {T:TypeId} {cx cy:Bool} {k:IntKind} {a b:Int} (h:¬ (b<=a)) (hk:K (.bool false) w):Run P (cq .geq T cx cy (.int k a) (.int k b)) w K:=by
 refine iu ?_
 rw [decide_eq_false h]
 exact hk
theorem dx {T:TypeId} {cx cy:Bool} {k:IntKind} {a b:Int} (h:a=b) (hk:K (.bool true) w):Run P (cq .eql T cx cy (.int k a) (.int k b)) w K:=by
 refine bh ?_
 rw [decide_eq_true h]
 exact hk
theorem cQ {T:TypeId} {cx cy:Bool} {k:IntKind} {a b:Int} (h:¬ (a=b)) (hk:K (.bool false) w):Run P (cq .eql T cx cy (.int k a) (.int k b)) w K:=by
 refine bh ?_
 rw [decide_eq_false h]
 exact hk
theorem xZ {T:TypeId} {cx cy:Bool} {a b:Int} (hr:-9223372036854775808<=a * b/\a * b<=9223372036854775807) (hk:K (.int .i64 (a * b)) w):Run P (cq .mul T cx cy (.int .i64 a) (.int .i64 b)) w K:=
 Run.of (by simp [cq,cj,binOp,Op.intArith,IntWalk.i64_in _ hr]) hk
theorem Pw {T:TypeId} {cx cy:Bool} {a b:Nat} (hb:0<b) (ha:a<=9223372036854775807) (hk:K (.int .i64 ((a / b:Nat):Int)) w):Run P (cq .quo T cx cy (.int .i64 (a:Int)) (.int .i64 (b:Int))) w K:=by
 refine Run.of ?_ hk
 have h0:¬ ((b:Int)=0):=by omega
 have h1:IntKind.i64.wrap ((a:Int).tdiv b)=((a / b:Nat):Int):=by
  rw [IntWalk.i64_quo _ _ (by omega)]; rfl
 simp only [cq,cj,binOp,Op.intDiv,Sem.run_bind,Result.andThen_ok,if_neg h0,Sem.run_pure]
 exact congrArg (fun v=>Result.ok (Next.value (.int .i64 v)) w) h1
theorem HK {T:TypeId} {cx cy:Bool} {a b:Nat} (hb:0<b) (hk:K (.int .i64 ((a % b:Nat):Int)) w):Run P (cq .rem T cx cy (.int .i64 (a:Int)) (.int .i64 (b:Int))) w K:=by
 refine Run.of ?_ hk
 have h1:(a:Int).tmod b=((a % b:Nat):Int):=by
  rw [IntWalk.rem_in _ _ (by omega)]; rfl
 have h0:¬ ((b:Int)=0):=by omega
 simp only [cq,cj,binOp,Op.intDiv,Sem.run_bind,Result.andThen_ok,if_neg h0,Sem.run_pure]
 exact congrArg (fun v=>Result.ok (Next.value (.int .i64 v)) w) h1
theorem PE {T:TypeId} {cx cy:Bool} {a b:Nat} (ha:a<4611686018427387904) (hb:b<4611686018427387904) (hk:K (.int .i64 ((a ^^^ b:Nat):Int)) w):Run P (cq .xor T cx cy (.int .i64 (a:Int)) (.int .i64 (b:Int))) w K:=by
 refine Run.of ?_ hk
 have hx:a ^^^ b<2 ^ 62:=Nat.xor_lt_two_pow (by simpa using ha) (by simpa using hb)
 have e1:(BitVec.ofInt 64 (a:Int)).toNat=a:=by rw [BitVec.toNat_ofInt]; omega
 have e2:(BitVec.ofInt 64 (b:Int)).toNat=b:=by rw [BitVec.toNat_ofInt]; omega
 have h1:IntKind.i64.wrap ((BitVec.ofInt 64 (a:Int) ^^^ BitVec.ofInt 64 (b:Int)).toNat:Int)=((a ^^^ b:Nat):Int):=by
  rw [BitVec.toNat_xor,e1,e2]
  exact IntWalk.i64_in _ (by omega)
 simp only [cq,cj,binOp,Op.intBits,Sem.run_bind,Result.andThen_ok,Sem.run_pure]
 exact congrArg (fun v=>Result.ok (Next.value (.int .i64 v)) w) h1
theorem O6 {T:TypeId} {cx cy:Bool} {k:IntKind} {a b c:Int} (hr:k.wrap (a+b)=c) (hk:K (.int k c) w):Run P (cq .add T cx cy (.int k a) (.int k b)) w K:=
 Run.of (by simp [cq,cj,binOp,Op.intArith,hr]) hk
theorem Ml {T:TypeId} {cx cy:Bool} {k:IntKind} {a b c:Int} (hr:k.wrap (a - b)=c) (hk:K (.int k c) w):Run P (cq .sub T cx cy (.int k a) (.int k b)) w K:=
 Run.of (by simp [cq,cj,binOp,Op.intArith,hr]) hk
theorem l7 {src dst ty:TypeId} {k k':IntKind} {n m:Int} {d:TypeDesc} (hs:P.underlying src=some d) (hd:P.underlying dst=some (.int k')) (hr:k'.wrap n=m) (hk:K (.int k' m) w) :
  Run P (sOp (.convert src dst (.const (.int k n))) ty) w K:=by
 refine Run.of ?_ hk
 simp [sOp,execOp,ev0,evE,convert,run_underlying hs,run_underlying hd,Conv.intToInt,hr]
theorem Or {T ty:TypeId} {n:Int} (hr:-9223372036854775808<=-n/\-n<=9223372036854775807) (hk:K (.int .i64 (-n)) w):Run P (sOp (.unOp .neg T (.const (.int .i64 n))) ty) w K:=
 Run.of (by simp [sOp,execOp,ev0,evE,Op.unary,Op.intArith,Int.zero_sub,IntWalk.i64_in _ hr]) hk
theorem Ps (a b:Bs):st a++st b=st (a++b):=by
 apply ByteArray.ext
 simp [st]
theorem bA {T:TypeId} {cx cy:Bool} {a b:Bs} (hl:a.length+b.length<=9223372036854775807) (hk:K (.string (st (a++b))) w):Run P (cq .add T cx cy (.string (st a)) (.string (st b))) w K:=by
 refine Run.of ?_ hk
 have h1:¬ (9223372036854775807<(((st a).size+(st b).size:Nat):Int)):=by rw [gj,gj]; omega
 have h2:IntKind.i64.max=9223372036854775807:=by decide
 simp only [cq,binOp,Op.stringOp,Sem.run_bind,nJ,Result.andThen_ok,gt_iff_lt,h2,if_neg h1,Sem.run_pure,Ps]
theorem OS (s:Bs) (a b:Nat):(st s).extract a b=st (cut s a b):=by
 apply ByteArray.ext
 apply Array.toList_inj.1
 simp [cut,ByteArray.data_extract,List.drop_take]
theorem yE {T ty:TypeId} {s:Bs} {a b:Nat} (hu:P.underlying T=some .string) (hab:a<=b) (hb:b<=s.length) (hk:K (.string (st (cut s a b))) w) :
  Run P (sOp (.slice T (.const (.string (st s))) (some (.const (.int .i64 a))) (some (.const (.int .i64 b))) none) ty) w K:=by
 refine Run.of ?_ hk
 have hb':b<=(st s).size:=by rw [gj]; exact hb
 simp [sOp,execOp,ev0,evE,Instr.sliceAt,Instr.slice,Instr.sliceBounds,run_underlying hu,jl hab,jl hb',OS]
theorem dy {T ty:TypeId} {s:Bs} {i:Nat} (hu:P.underlying T=some .string) (hi:i<s.length) (hk:K (.int .u8 s[i].toNat) w) :
  Run P (sOp (.index T (.const (.string (st s))) (.const (.int .i64 i))) ty) w K:=by
 have hi':i<(st s).size:=by rw [gj]; exact hi
 refine jq hu hi' ?_
 have:(st s)[i]=s[i]:=by simp [st,ByteArray.getElem_eq_getElem_data]
 rw [this]
 exact hk
theorem eH {T ty:TypeId} {cs:List Bool} {s:Bs} (hu:P.underlying T=some .string) (hk:K (.int .i64 s.length) w):Run P (bx .len #[T] ty cs [.string (st s)]) w K:=by
 refine eQ hu ?_
 rw [gj]
 exact hk
theorem rg {T:TypeId} {cx cy:Bool} {a b:Bs} (hk:K (.bool (decide (a=b))) w):Run P (cq .eql T cx cy (.string (st a)) (.string (st b))) w K:=by
 refine bf ?_
 have:decide (st a=st b)=decide (a=b):=by
  rw [decide_eq_decide]
  exact ⟨fun h=>by rw [<- yP a,h,yP],fun h=>by rw [h]⟩
 rw [this]
 exact hk
theorem C0 {T:TypeId} {cx cy:Bool} {a b:Bs} (hk:K (.bool (!decide (a=b))) w):Run P (cq .neq T cx cy (.string (st a)) (.string (st b))) w K:=by
 refine IX ?_
 have:decide (st a=st b)=decide (a=b):=by
  rw [decide_eq_decide]
  exact ⟨fun h=>by rw [<- yP a,h,yP],fun h=>by rw [h]⟩
 rw [this]
 exact hk
theorem rt (h:Inv w0 X L S w) {T T' D ty e:TypeId} {by_:Nat} {z:Value} {n:Nat} (hT:fb P T=some (e,1,by_,z)) (he:P.underlying T'=some (.slice e)) (hb:P.underlying e=some (.int .u8)) (hD:P.underlying D=some .string)
  {K:Value->Value->World->Prop} (hk:∀ w',Inv w0 X L S w'->K (.slice (some ⟨w.heap.size,0,none⟩) 1 1) (.string (st [UInt8.ofNat n])) w') :
  Run P (bi T 1 [(0,.int .u8 (n:Int))]) w fun u w'=>Run P (sOp (.convert T' D (.const u)) ty) w' (K u):=by
 refine oY h hT rfl (by omega) (by omega) fun w' hI=>?_
 have hi:(L++[Item.blk w.heap.size (.cells (Value.int .u8 (n:Int)).cells e)])[L.length]?=some (.blk w.heap.size (.cells (Value.int .u8 (n:Int)).cells e)):=by
  rw [List.getElem?_append_right (Nat.le_refl _),Nat.sub_self]; rfl
 have hc:w'.cell? ⟨w.heap.size,0,none⟩=some (.int .u8 (n:Int)):=by rw [hI.cellL hi]; rfl
 have hl:=run_loadCells_list (P:=P) (w:=w') ⟨w.heap.size,0,none⟩ [.int .u8 (n:Int)] (fun j v hj=>by
  match j with
  | 0=>simp only [List.getElem?_cons_zero,Option.some.injEq] at hj; subst hj; rw [iW]; exact hc
  | j+1=>simp at hj)
 simp only [List.length_cons,List.length_nil] at hl
 refine Run.of (w':=w') ?_ (hk _ (hI.sub (List.sublist_append_left _ _)))
 simp [sOp,execOp,ev0,evE,convert,run_underlying he,run_underlying hb,run_underlying hD,Conv.bytesToString,hl,st]
 rfl
end
end
end Go.Proofs.YtbocelianhcfmaaGreatDoor
