/- Copies whose topmost row is still the caller's own, all else published. (printed by gen_top.py out of Copy and CopyC) -/
import Derived.Test.YtbocelianhcfmaaGreatDoorZEg4
import Derived.Test.YtbocelianhcfmaaGreatDoorZEg5
import Derived.Test.YtbocelianhcfmaaGreatDoorZEg3
import Derived.Test.YtbocelianhcfmaaGreatDoorZEg8
import Derived.Test.YtbocelianhcfmaaGreatDoorZEg2
namespace Go.Proofs.YtbocelianhcfmaaGreatDoor
section
open Go Go.RowKit
theorem Grown.rows {α:Type} {k:Nat} {R:aV->List Value->α->Prop} {R':List Value->α->Prop} {Ls:List aV} {css:List (List Value)} {ys:List α} {S:ae} (h:Grown k R Ls css ys) (hi:Ins S Ls.flatten)
  (hR:∀ L cs x,Ins S L->R L cs x->R' cs x):Rows k R' css ys:=
 ⟨h.hc,h.hk,fun i h1 h2=>hR _ _ _ (xM hi (by rw [h.hL]; exact h1)) (h.hR i h1 (by rw [h.hL]; exact h1) h2)⟩
abbrev LQ (t:T):Value->List Item->ae->Prop:=fun v I' S'=>∃ kv css,v=.agg #[.int .i64 t.kind,.int .i64 t.n,.string t.name,kv]/\I'=[aP kv ab 4 css]/\Rows 4 (RdT S') css t.kids
section
attribute [local irreducible] Run CondV ar aI
theorem KG:∀ (t:T) (S:ae) (cs:List Value),RdT S cs t->wT t<=1048576->Tri Tryz.prog qL [.agg cs.toArray] [] S (LQ t):=by
 intro t S cs h hw
 obtain ⟨k,n,s,ks⟩:=t
 have ih:∀ t∈ks,∀ (S:ae) (cs:List Value),RdT S cs t->wT t<=1048576->Tri Tryz.prog qL [.agg cs.toArray] [] S (BU S t):=fun t _=>fu t
 intro w hI
 obtain ⟨kv,rfl,h1,h2,hs,hks⟩:=RdT.iff.1 h
 simp only [T.name,T.kids,T.kind,T.n] at h1 h2 hs hks ⊢
 simp only [wT] at hw
 refine kD.2 ?_
 dsimp only[kD,aE]
 refine be hI fun b1 w' hI=>?_
 refine aA hI aU fun b2 w' hI=>?_
 refine ad hI 0 rfl aM aw rfl ?_
 refine ad hI 0 rfl aR aw rfl ?_
 refine ad hI 0 rfl aH aC rfl ?_
 refine ip ?_
 refine aA hI aU fun b3 w' hI=>?_
 refine aj hI 2 rfl ac rfl rfl (by simp [Value.oneCell']) fun w' hI=>?_
 have hI:=hI.rowNil ab 4
 refine ⟨fun i w'=>∃ (j:Nat) (kvc:Value) (Ls:List aV) (css:List (List Value)),j<=ks.length/\i=.int .i64 j/\Grown 4 TrT Ls css (ks.take j)/\
   Inv w [] (.blk b1 (.cells #[.int .i64 k,.int .i64 n,.string s,kv] ab)::.blk b2 (.cells #[.int .i64 0,.int .i64 0,.string ⟨#[]⟩,.slice none 0 0] ab)::.blk b3 (.cells #[.int .i64 k,.int .i64 n,.string s,kvc] ab)::aP kvc ab 4 css::bB Ls.flatten) S w',
  fun i _=>ks.length - (intOf i).toNat,⟨0,_,[],[],Nat.zero_le _,rfl,Grown.nil _ _,hI⟩,?_⟩
 intro t4 _ _ _ _ _ _ _ _ _ _ _ _ _ _ _ _ _ _ w'
 rintro ⟨j,kvc,Ls,css,hj,rfl,hg,hI⟩
 refine ad hI 0 rfl ak al rfl ?_
 refine aK hks ah ?_
 refine bD ?_
 refine aN (fun hji=>?_) (fun hji=>?_)
 ·have hj':j<ks.length:=by omega
  have hjl:(ks.take j).length=j:=by simp; omega
  have hcl:=hg.hc
  have hm:=List.getElem_mem hj'
  have hwm:=kM hm
  obtain ⟨b,o,cap,c,E,fz,rfl,hS,hR⟩:=hks.at_ hj'
  refine ⟨fun D iF fC kl lf iT lY ni mD kX i6 lQ w_=>Fx D 0 [lQ=.pointer (some ⟨b3,3,none⟩),i6=kvc,kX=.pointer (some ⟨b1,3,none⟩),mD=.slice (some ⟨b,o,none⟩) (ks).length cap,ni=.int .i64 j,lY=.pointer (some ⟨b,o+j * 4,none⟩),iT=.agg (aL c (o+j * 4) 4).toArray,True,True,True,iF=.pointer (some ⟨b3,3,none⟩),True]/\∃ M cs7 b8,(D 7=true->lf=.agg cs7.toArray/\TrT M cs7 (ks)[j])/\(D 8=true->kl=.slice (some ⟨b8,0,none⟩) 1 1)/\(D 8=true->D 7=true)/\(D 9=true->D 8=true)/\(D 11=true->D 9=true)/\(D 11=true->D 1=true)/\Inv w [] (bg (.blk b1 (.cells #[.int .i64 k,.int .i64 n,.string s,.slice (some ⟨b,o,none⟩) ks.length cap] ab)) (.blk b2 (.cells #[.int .i64 0,.int .i64 0,.string ⟨#[]⟩,.slice none 0 0] ab)) (.blk b3 (.cells #[.int .i64 k,.int .i64 n,.string s,kvc] ab)) (.blk b3 (.cells #[.int .i64 k,.int .i64 n,.string s,fC] ab)) (aP kvc ab 4 css) (aP fC ab 4 (css++[cs7])) (bB Ls.flatten) M (.blk b8 (.cells cs7.toArray ab)) (D 7) (D 8) (D 9) (D 11)) S w_,⟨Fx.nil _ _,⟨[],[],0,aT,aT,aT,aT,aT,aT,by simpa [bg,bB] using hI.draw⟩⟩,⟨?_,?_,?_,?_,?_,?_,?_,?_,?_,?_,?_,?_,trivial⟩,?_⟩
  all_goals (intro D bw; intros; rename_i iF fC kl lf iT lY ni mD kX i6 lQ w_ hA_; have hF_:=hA_.1; obtain ⟨⟨bQ,bS,bU,bR,bY,bZ,bO,cG,cS,cT,bL,co,_⟩,⟨M,cs7,b8,e7,e8,k8,k9,k11,k1,hI⟩⟩:=hA_)
  ·refine ao ak ?_
   exact ⟨hF_.set 0 rfl,⟨M,cs7,b8,e7,e8,k8,k9,k11,k1,hI⟩⟩
  ·obtain rfl:=bQ ‹_›
   have f11:D 11=false:=Bool.eq_false_iff.2 fun h=>by rw [k1 h] at bw; cases bw
   refine ax (b:=b3) hI 2 (c:=(#[.int .i64 k,.int .i64 n,.string s,kvc])) al (by rw [f11]; rfl) rfl ?_
   have k1:=fun (_:aB D 1 11=true)=>(rfl:aB D 1 1=true)
   exact ⟨hF_.set 1 rfl,⟨M,cs7,b8,e7,e8,k8,k9,k11,k1,hI⟩⟩
  ·refine ao ak ?_
   exact ⟨hF_.set 2 rfl,⟨M,cs7,b8,e7,e8,k8,k9,k11,k1,hI⟩⟩
  ·obtain rfl:=bU ‹_›
   refine ax hI 0 al rfl rfl ?_
   exact ⟨hF_.set 3 rfl,⟨M,cs7,b8,e7,e8,k8,k9,k11,k1,hI⟩⟩
  ·exact ⟨hF_.set 4 rfl,⟨M,cs7,b8,e7,e8,k8,k9,k11,k1,hI⟩⟩
  ·obtain rfl:=bR ‹_›
   obtain rfl:=bY ‹_›
   refine ay ah hj' ?_
   exact ⟨hF_.set 5 rfl,⟨M,cs7,b8,e7,e8,k8,k9,k11,k1,hI⟩⟩
  ·obtain rfl:=bZ ‹_›
   refine ci ac hR.length (fun j v hj=>by rw [hI.cellS hS]; exact aD rfl j v hj) ?_
   exact ⟨hF_.set 6 rfl,⟨M,cs7,b8,e7,e8,k8,k9,k11,k1,hI⟩⟩
  ·obtain rfl:=bO ‹_›
   have f8:D 8=false:=Bool.eq_false_iff.2 fun h=>by rw [k8 h] at bw; cases bw
   have f9:D 9=false:=Bool.eq_false_iff.2 fun h=>by rw [k9 h] at f8; cases f8
   have f11:D 11=false:=Bool.eq_false_iff.2 fun h=>by rw [k11 h] at f9; cases f9
   rw [bw,f8,f9,f11] at hI
   refine Run.call0 eD eC hI (ih _ (List.getElem_mem hj') S _ hR (by omega)) fun v' I' S w_=>?_
   rintro ⟨rfl,cs7,M,rfl,rfl,hT⟩ _ hI
   have e7:aB D 7 7=true->Value.agg cs7.toArray=Value.agg cs7.toArray/\TrT M cs7 (ks)[j]:=fun _=>⟨rfl,hT⟩
   have k8:=fun (_:aB D 7 8=true)=>(rfl:aB D 7 7=true)
   have hI:Inv w [] (bg (.blk b1 (.cells #[.int .i64 k,.int .i64 n,.string s,.slice (some ⟨b,o,none⟩) ks.length cap] ab)) (.blk b2 (.cells #[.int .i64 0,.int .i64 0,.string ⟨#[]⟩,.slice none 0 0] ab)) (.blk b3 (.cells #[.int .i64 k,.int .i64 n,.string s,kvc] ab)) (.blk b3 (.cells #[.int .i64 k,.int .i64 n,.string s,fC] ab)) (aP kvc ab 4 css) (aP fC ab 4 (css++[cs7])) (bB Ls.flatten) M (.blk b8 (.cells cs7.toArray ab)) true (D 8) (D 9) (D 11)) S w_:=by
    rw [f8,f9,f11]
    simpa [bg] using hI
   exact ⟨hF_.set 7 (by first|assumption|trivial),⟨M,cs7,b8,e7,e8,k8,k9,k11,k1,hI⟩⟩
  ·have GO:=cG ‹_›
   have f9:D 9=false:=Bool.eq_false_iff.2 fun h=>by rw [k9 h] at bw; cases bw
   have f11:D 11=false:=Bool.eq_false_iff.2 fun h=>by rw [k11 h] at f9; cases f9
   obtain ⟨q7,hT⟩:=e7 ‹D 7=true›
   subst q7
   rw [‹D 7=true›,bw,f9,f11] at hI
   refine dH hI bj (by simp [Value.cells,hT.length]) (by omega) (by omega) fun b8 w_ hI=>?_
   have e7:aB D 8 7=true->Value.agg cs7.toArray=Value.agg cs7.toArray/\TrT M cs7 (ks)[j]:=fun _=>⟨rfl,hT⟩
   have e8:=fun (_:aB D 8 8=true)=>(rfl:Value.slice (some ⟨b8,0,none⟩) 1 1=_)
   have k8:=fun (_:aB D 8 8=true)=>‹D 7=true›
   have k9:=fun (_:aB D 8 9=true)=>(rfl:aB D 8 8=true)
   have hI:Inv w [] (bg (.blk b1 (.cells #[.int .i64 k,.int .i64 n,.string s,.slice (some ⟨b,o,none⟩) ks.length cap] ab)) (.blk b2 (.cells #[.int .i64 0,.int .i64 0,.string ⟨#[]⟩,.slice none 0 0] ab)) (.blk b3 (.cells #[.int .i64 k,.int .i64 n,.string s,kvc] ab)) (.blk b3 (.cells #[.int .i64 k,.int .i64 n,.string s,fC] ab)) (aP kvc ab 4 css) (aP fC ab 4 (css++[cs7])) (bB Ls.flatten) M (.blk b8 (.cells cs7.toArray ab)) (D 7) true (D 9) (D 11)) S w_:=by
    rw [‹D 7=true›,f9,f11]
    simpa [bg,Value.cells] using hI
   exact ⟨hF_.set 8 (by first|assumption|trivial),⟨M,cs7,b8,e7,e8,k8,k9,k11,k1,hI⟩⟩
  ·obtain rfl:=bS ‹_›
   have Bo:=cS ‹_›
   have f11:D 11=false:=Bool.eq_false_iff.2 fun h=>by rw [k11 h] at bw; cases bw
   have q8:=e8 ‹D 8=true›
   subst q8
   obtain ⟨_,hT⟩:=e7 ‹D 7=true›
   rw [‹D 7=true›,‹D 8=true›,bw,f11] at hI
   have hblk:((bg (.blk b1 (.cells #[.int .i64 k,.int .i64 n,.string s,.slice (some ⟨b,o,none⟩) ks.length cap] ab)) (.blk b2 (.cells #[.int .i64 0,.int .i64 0,.string ⟨#[]⟩,.slice none 0 0] ab)) (.blk b3 (.cells #[.int .i64 k,.int .i64 n,.string s,i6] ab)) (.blk b3 (.cells #[.int .i64 k,.int .i64 n,.string s,fC] ab)) (aP i6 ab 4 css) (aP fC ab 4 (css++[cs7])) (bB Ls.flatten) M (.blk b8 (.cells cs7.toArray ab)) true true false false))[4+(bB Ls.flatten).length+(bB M).length]?=some (.blk b8 (.cells cs7.toArray ab)):=by
    have e4:4+(bB Ls.flatten).length+(bB M).length=((bB Ls.flatten).length+(bB M).length)+1+1+1+1:=by omega
    rw [e4]
    simp only [bg,List.getElem?_cons_succ]
    rw [List.getElem?_append_right (by omega),Nat.add_sub_cancel_left,List.getElem?_append_right (Nat.le_refl _),Nat.sub_self]; rfl
   refine eZ hI 3 cs7 bj (by omega) rfl (by rw [hT.length]) (m:=1) (o:=0) ?_ hT.one (by omega) (by omega) fun v' w_ hI=>?_
   ·intro i u hi
    rw [hI.cellL hblk,Nat.zero_add]
    simpa using hi
   rw [fS] at hI
   have k9:=fun (_:aB D 9 9=true)=>‹D 8=true›
   have k11:=fun (_:aB D 9 11=true)=>(rfl:aB D 9 9=true)
   have hI:Inv w [] (bg (.blk b1 (.cells #[.int .i64 k,.int .i64 n,.string s,.slice (some ⟨b,o,none⟩) ks.length cap] ab)) (.blk b2 (.cells #[.int .i64 0,.int .i64 0,.string ⟨#[]⟩,.slice none 0 0] ab)) (.blk b3 (.cells #[.int .i64 k,.int .i64 n,.string s,i6] ab)) (.blk b3 (.cells #[.int .i64 k,.int .i64 n,.string s,v'] ab)) (aP i6 ab 4 css) (aP v' ab 4 (css++[cs7])) (bB Ls.flatten) M (.blk b8 (.cells cs7.toArray ab)) (D 7) (D 8) true (D 11)) S w_:=by
    rw [‹D 7=true›,‹D 8=true›,f11]
    exact hI
   exact ⟨hF_.set 9 (by first|assumption|trivial),⟨M,cs7,b8,e7,e8,k8,k9,k11,k1,hI⟩⟩
  ·refine ao ak ?_
   exact ⟨hF_.set 10 rfl,⟨M,cs7,b8,e7,e8,k8,k9,k11,k1,hI⟩⟩
  ·obtain rfl:=bL ‹_›
   have GP:=cT ‹_›
   rw [‹D 7=true›,‹D 8=true›,‹D 9=true›,bw] at hI
   obtain ⟨va,vn,vc,hv9⟩:=Inv.rowSlice hI 3 rfl
   refine dB hI 2 (n:=1) (by rw [hv9]; rfl) (by decide +kernel) rfl (by simp) (by rw [hv9]; simp [Value.cells,Value.oneCell']) fun w_ hI=>?_
   have hcl9:Value.cells fC=#[fC]:=by rw [hv9]; rfl
   rw [hcl9] at hI
   have k1:=fun (_:aB D 11 11=true)=>‹D 1=true›
   have k11:=fun (_:aB D 11 11=true)=>‹D 9=true›
   have hI:Inv w [] (bg (.blk b1 (.cells #[.int .i64 k,.int .i64 n,.string s,.slice (some ⟨b,o,none⟩) ks.length cap] ab)) (.blk b2 (.cells #[.int .i64 0,.int .i64 0,.string ⟨#[]⟩,.slice none 0 0] ab)) (.blk b3 (.cells #[.int .i64 k,.int .i64 n,.string s,kvc] ab)) (.blk b3 (.cells #[.int .i64 k,.int .i64 n,.string s,fC] ab)) (aP kvc ab 4 css) (aP fC ab 4 (css++[cs7])) (bB Ls.flatten) M (.blk b8 (.cells cs7.toArray ab)) (D 7) (D 8) (D 9) true) S w_:=by
    rw [‹D 7=true›,‹D 8=true›,‹D 9=true›]
    exact hI
   exact ⟨hF_.set 11 trivial,⟨M,cs7,b8,e7,e8,k8,k9,k11,k1,hI⟩⟩
  obtain ⟨rfl,rfl,rfl,rfl,rfl,rfl,rfl,GO,Bo,GP,rfl,_,_⟩:=hF_.all
  have Cs:D 7=true:=by assumption
  have z8:D 8=true:=by assumption
  have Fk:D 9=true:=by assumption
  have uL:D 11=true:=by assumption
  clear hF_ bQ bS bU bR bY bZ bO cG cS cT bL co
  obtain ⟨_,hT⟩:=e7 Cs
  rw [Cs,z8,Fk,uL] at hI
  refine bm (by omega) ?_
  refine ⟨⟨j+1,fC,Ls++[M],css++[cs7],hj',rfl,?_,?_⟩,by simp [intOf]; omega⟩
  ·rw [List.take_succ_eq_append_getElem hj']
   exact hg.snoc hT hT.length
  ·simp only [List.flatten_append,List.flatten_cons,List.flatten_nil,List.append_nil,fj]
   refine hI.sub ?_
   simp only [bg]
   rw [<- List.append_assoc]
   exact (((List.sublist_append_left _ _).cons_cons _).cons_cons _).cons_cons _ |>.cons_cons _
 ·have:j=ks.length:=by omega
  subst this
  rw [List.take_length] at hg
  obtain ⟨va,vn,vc,hvk⟩:=hI.rowSlice 3 rfl
  have hv1:kvc.oneCell'=true:=by rw [hvk]; rfl
  refine ag hI 2 ac rfl rfl ?_
  refine aj hI 1 rfl ac rfl rfl ?_ fun w' hI=>?_
  ·intro u hu
   have hu':u∈([.int .i64 k,.int .i64 n,.string s,kvc]:List Value):=hu
   simp at hu'
   rcases hu' with rfl|rfl|rfl|rfl <;> first|rfl|exact hv1
  refine aS hI 1 ac rfl rfl ?_
  have hI:Inv w [] ([aP kvc ab 4 css]++bB Ls.flatten) S w':=hI.sub (List.sublist_append_right [_,_,_] _)
  obtain ⟨S1,hI,hE,hins⟩:=hI.pubExt
  exact ⟨_,_,S1,rfl,hI,hE,_,css,rfl,rfl,hg.rows hins fun _ _ _ hi h=>h.rd hi⟩
end
end
section
open Go Go.RowKit
section
variable {w0 w:World} {X:List Nat} {L:List Item} {S:ae} {P:Program} {K:Value->World->Prop}
attribute [local irreducible] Run CondV ar aI
theorem zj (h:Inv w0 X L S w) {T ty e:TypeId} {by_:Nat} {z v x:Value} {cs:List Bool} {css:List (List Value)} (i:Nat)
  (hT:fb P T=some (e,1,by_,z)) (hi:L[i]?=some (aP v e 1 css)) (hx:x.cells=#[x]) (h1:x.oneCell'=true) (hfit:css.length+1<=4294967296) (hby:by_<=32768)
  {K:Value->Value->World->Prop} (hk:∀ v' w',Inv w0 X (L.set i (aP v' e 1 (css++[[x]]))) S w'->K (.slice (some ⟨w.heap.size,0,none⟩) 1 1) v' w') :
  Run P (bi T 1 [(0,x)]) w fun u w'=>Run P (bx .append #[T,T] ty cs [v,u]) w' (K u):=by
 refine oY h hT (by rw [hx]; rfl) (by omega) (by omega) fun w' hI=>?_
 have hil:i<L.length:=(List.getElem?_eq_some_iff.1 hi).1
 refine eZ hI i [x] hT (by omega) (by rw [List.getElem?_append_left hil]; exact hi) (by simp) (m:=1) (o:=0) ?_ (by simpa using h1) hfit hby fun v' w' hI=>?_
 ·intro j u hj
  rw [hI.cellL (i:=L.length) (by rw [List.getElem?_append_right (Nat.le_refl _),Nat.sub_self]; rfl)]
  rw [Nat.zero_add,hx]
  simpa using hj
 ·refine hk _ _ ?_
  rw [<- fS]
  rw [List.set_append_left _ _ hil] at hI
  exact hI.sub (List.sublist_append_left _ _)
end
end
section
open Go Go.RowKit
theorem uH:∀ (f:Nat) (l:List T) (b:Bool) (out x:Bs),wz f l b out=some x->out.length<=x.length
 | _,[],_,out,x,h=>by simp only [wz,Option.some.injEq] at h; subst h; exact Nat.le_refl _
 | f,t::l,b,out,x,h=>by
  rw [wz] at h
  split at h
  ·cases h
  ·have:=uH f _ _ _ _ h
   simp only [List.length_append] at this
   omega
section
variable {S:ae}
attribute [local irreducible] Run CondV ar aI
theorem DP {f:Nat} (hf:f<=100) {c:C} {cs:List Value} {x:Bs} (h:RdC S cs c) (hx:JS f c=some x) (hl:x.length<=1000000):Pure Tryz.prog Hb [.agg cs.toArray] S (.string (st x)):=by
 intro w hI
 obtain ⟨hd,ks,rfl,h1,h2⟩:=h
 have h1':=h1
 obtain ⟨kv,rfl,_⟩:=RdT.iff.1 h1
 unfold JS at hx
 split at hx
 ·cases hx
 rename_i y hy
 split at hx
 ·cases hx
 rename_i z hz
 simp only [Option.some.injEq] at hx
 have hzx:z.length+1=x.length:=by rw [<- hx,List.length_append]; rfl
 have hyz:=uH _ _ _ _ _ hz
 have hb:c.body.length<=9223372036854775807:=by have:=h2.le; simpa [maxLen] using this
 refine wo.2 ?_
 dsimp only[wo,aE]
 refine be hI fun b1 w' hI=>?_
 have hI:Inv w [] [.blk b1 (.cells #[.int .i64 c.head.kind,.int .i64 c.head.n,.string c.head.name,kv,ks] aQ)] S w':=hI
 refine ao dA ?_
 refine b0 hI 0 [.int .i64 c.head.kind,.int .i64 c.head.n,.string c.head.name,kv] ac rfl rfl MA ?_
 refine Run.callPure eF ey hI (BI hf _ y S _ hy (by omega) h1') fun w' hI=>?_
 refine ⟨fun a b w'=>∃ (j:Nat) (out:Bs),j<=c.body.length/\a=.int .i64 (j:Int)/\b=.string (st out)/\wz f (c.body.drop j) (decide (j=0)) out=some z/\Inv w [] [.blk b1 (.cells #[.int .i64 c.head.kind,.int .i64 c.head.n,.string c.head.name,kv,ks] aQ)] S w',
  fun a _ _=>c.body.length - (intOf a).toNat,⟨0,y,Nat.zero_le _,rfl,rfl,hz,hI⟩,?_⟩
 intro t4 _ _ _ _ _ _ _ _ _ _ _ _ t3 _ _ _ _ _ _ _ _ _ w'
 rintro ⟨j,out,hj,rfl,rfl,hbf,hI⟩
 refine ad hI 0 rfl cC al rfl ?_
 refine aK h2 ah ?_
 refine bD ?_
 refine aN (fun hji=>?_) (fun hji=>?_)
 ·have hj':j<c.body.length:=by omega
  rw [List.drop_eq_getElem_cons hj',wz] at hbf
  split at hbf
  ·cases hbf
  rename_i u hu
  have hlen:=uH _ _ _ _ _ hbf
  simp only [List.length_append] at hlen
  obtain ⟨pre,hpre⟩:∃ pre:Bs,pre=if decide (j=0)=true then [58,45] else [44]:=⟨_,rfl⟩
  rw [<- hpre] at hbf hlen
  refine ⟨fun b w'=>b=.string (st (out++pre))/\Inv w [] [.blk b1 (.cells #[.int .i64 c.head.kind,.int .i64 c.head.n,.string c.head.name,kv,ks] aQ)] S w',?_,?_⟩
  ·refine bh ?_
   refine aN (fun h0=>?_) (fun h0=>?_)
   ·rw [if_pos (decide_eq_true (by omega))] at hpre
    subst hpre
    refine bA (b:=[58,45]) (by omega) ?_
    exact ⟨rfl,hI⟩
   ·rw [if_neg (by rw [decide_eq_true_eq]; omega)] at hpre
    subst hpre
    refine bA (b:=[44]) (by omega) ?_
    exact ⟨rfl,hI⟩
  intro _ _ t3 _ _ _ _ w'
  rintro ⟨rfl,hI⟩
  refine ad hI 0 rfl cC al rfl ?_
  refine bP hI h2 ah ac hj' (fun _ _=>RdT.length) fun es hes=>?_
  refine Run.callPure eF ey hI (BI hf _ u S _ hu (by omega) hes) fun w' hI=>?_
  refine bA (by rw [List.length_append]; omega) ?_
  refine bm (by omega) ?_
  refine ⟨⟨j+1,out++pre++u,hj',rfl,rfl,?_,hI⟩,by simp only [intOf,Int.toNat_natCast]; omega⟩
  rw [decide_eq_false (by omega)]
  exact hbf
 ·have:j=c.body.length:=by omega
  subst this
  rw [List.drop_length,wz] at hbf
  simp only [Option.some.injEq] at hbf
  subst hbf
  refine bA (b:=[46]) (by simp only [List.length_cons,List.length_nil]; omega) ?_
  exact done hI (by rw [<- hx])
theorem qV {f:Nat} (hf:f<=100) {c:C} {cs:List Value} {x:Bs} (h:RdC S cs c) (hc:dg c=true) (hw:wC c<=1048576) (hx:JS f c=some x) (hl:x.length<=1000000):Pure Tryz.prog uU [.agg cs.toArray] S (.string (st x)):=by
 intro w hI
 have h0:=h
 obtain ⟨hd,ks,rfl,h1,h2⟩:=h
 obtain ⟨kv,rfl,_⟩:=RdT.iff.1 h1
 refine j9.2 ?_
 dsimp only[j9,aE]
 refine be hI fun b1 w' hI=>?_
 refine ag hI 0 cD rfl rfl ?_
 refine Run.callPure uA uI hI (ro h0 hw) fun w' hI=>?_
 refine bW ?_
 rw [hc]
 refine av (fun hb=>by cases hb) (fun _=>?_)
 refine ag hI 0 cD rfl rfl ?_
 refine Run.callPure FB Gw hI (DP hf h0 hx hl) fun w' hI=>?_
 exact done hI rfl
theorem p6 {f k:Nat} {s:Bs} {i:Nat} {ts:List T} {n:Nat} (h:mB f k s i []=some (ts,n)) (hs:s.length<=100000) (hi:i<=s.length):Tri Tryz.prog FY [.string (st s),.int .i64 (i:Int)] [] S (Ot ts n):=by
 intro w hI
 refine sw.2 ?_
 dsimp only[sw,aY]
 refine dG hI bj fun v0 w' hI=>?_
 refine ⟨fun a b w'=>∃ (k' i':Nat) (acc:List T) (S1:ae) (css:List (List Value)),a=.int .i64 (i':Int)/\i'<=s.length/\mB f k' s i' acc=some (ts,n)/\Ext w.heap.size [] S S1/\Rows 4 (RdT S1) css acc/\(∃ p m,b=.slice p acc.length m)/\Inv w [] [aP b ab 4 css] S1 w',
  fun a _ _=>s.length+1 - (intOf a).toNat,⟨k,i,[],S,[],rfl,hi,h,Ext.refl _ _ _,Rows.nil _ _,?_,hI⟩,?_⟩
 ·have hI2:Inv w [] ([]++[aP v0 ab 4 []]) S w':=hI
  obtain ⟨S1,_,hrd,_⟩:=Inv.lendExt hI2
  obtain ⟨p,m,e,_⟩:=RowRd.rows (Rows.nil 4 (RdT S)) hrd
  exact ⟨p,m,e⟩
 intro t1 _ _ _ _ _ _ _ _ t6 _ _ _ _ _ _ _ _ _ _ _ _ _ _ _ _ _ _ _ w'
 rintro ⟨k',i',acc,S1,css,rfl,hi2,hT,hE,hR,⟨p,m,rfl⟩,hI⟩
 have hcl:=hR.hc
 cases k' with
 | zero=>simp [mB] at hT
 | succ g=>
 rw [mB] at hT
 split at hT
 ·cases hT
 rename_i h6
 split at hT
 ·cases hT
 rename_i t n' hr
 have hle:=(fI f).1 _ _ _ _ _ _ hr
 refine dL ah ?_
 refine uG (by omega) ?_
 refine av (fun _=>?_) (fun hb=>by cases hb)
 refine Run.call0E eA eE hI (vC f s i' 30 3 t n' S1 hr hs hi2 (by omega) (by omega)) fun v I' S2 w'=>?_
 rintro ⟨rfl,cs,rfl,hcs⟩ hE2 hI
 have hR2:=hR.monoR fun _ _ h=>RdT.mono hE2.1 h
 obtain ⟨kv,rfl,_,_,_,a,q,rfl,_⟩:=RdT.iff.1 hcs
 refine ai (v:=.agg _) rfl ?_
 refine ai (v:=.int .i64 (n':Int)) rfl ?_
 refine aA hI aU fun b13 w' hI=>?_
 refine aj hI 1 rfl ac rfl rfl (by simp [Value.oneCell']) fun w' hI=>?_
 refine dU (by omega) ?_
 refine av (fun hb=>by cases hb) (fun _=>?_)
 refine ag hI 1 ac rfl rfl ?_
 refine fU (css:=css) hI 0 _ bj (by omega) (by omega) rfl hcs.length hcs.one (by omega) (by omega) fun v' w' hI=>?_
 have hI:Inv w [] [aP v' ab 4 (css++[[.int .i64 t.kind,.int .i64 t.n,.string t.name,.slice a t.kids.length q]])] S2 w':=hI.pick [true,false]
 have hR3:=hR2.snoc hcs hcs.length
 have hI2:Inv w [] ([]++[aP v' ab 4 (css++[[.int .i64 t.kind,.int .i64 t.n,.string t.name,.slice a t.kids.length q]])]) S2 w':=hI
 obtain ⟨S3,hE3,hrd,hI3⟩:=Inv.lendExt hI2
 have hrs:=RowRd.rows (hR3.monoR fun _ _ h=>RdT.mono hE3.1 h) hrd
 refine Run.callPure ct cw hI (cg s n' 44 S2) fun w' hI=>?_
 refine bW ?_
 split at hT
 ·rename_i h44
  rw [h44]
  refine av (fun hb=>by cases hb) (fun _=>?_)
  have:=gd h44
  refine dM (a:=n') (b:=1) rfl rfl (by omega) ?_
  obtain ⟨p',m',e',_⟩:=hrs
  refine ⟨⟨g,n'+1,acc++[t],S2,_,rfl,by omega,hT,hE.trans hE2,hR3,⟨p',m',e'⟩,hI⟩,?_⟩
  simp only [intOf,Int.toNat_natCast]
  omega
 ·rename_i h44
  rw [Bool.eq_false_iff.2 h44]
  refine av (fun _=>?_) (fun hb=>by cases hb)
  simp only [Option.some.injEq,Prod.mk.injEq] at hT
  obtain ⟨rfl,rfl⟩:=hT
  have hI2:Inv w [] ([]++[aP v' ab 4 (css++[[.int .i64 t.kind,.int .i64 t.n,.string t.name,.slice a t.kids.length q]])]) S2 w':=hI
  obtain ⟨S4,hE4,hrd,hI⟩:=Inv.lendExt hI2
  have hrs:=RowRd.rows (hR3.monoR fun _ _ h=>RdT.mono hE4.1 h) hrd
  exact ⟨_,[],S4,rfl,hI,(hE.trans hE2).trans hE4,rfl,_,rfl,hrs⟩
abbrev PP (c:C) (b:Bool):Value->List Item->ae->Prop:=fun v I' S'=>I'=[]/\∃ cs,v=.tuple #[.agg cs.toArray,.bool b]/\RdC S' cs c
theorem sP {f:Nat} (hf:f<=100) {s:Bs} {c:C} (h:tO f s=some c):Tri Tryz.prog xB [.string (st s)] [] S (PP c true):=by
 intro w hI
 refine lT.2 ?_
 dsimp only[lT,aE]
 unfold tO at h
 split at h
 ·cases h
 rename_i hs
 split at h
 ·cases h
 rename_i hd n hr
 have hle:=(fI f).1 _ _ _ _ _ _ hr
 have hfin:∃ b n2,c=⟨hd,b⟩/\Ki f s c n2=some c/\((sgn s n 58=true/\sgn s (n+1) 45=true/\mB f 8 s (n+2) []=some (b,n2)) ∨ (¬ (sgn s n 58=true/\sgn s (n+1) 45=true)/\b=[]/\n2=n)):=by
  have hcc:∀ (c':C) (m:Nat),Ki f s c' m=some c->c'=c:=fun c' m h=>by
   unfold Ki at h
   split at h
   ·exact Option.some.inj h
   ·cases h
  split at h
  ·rename_i h58
   split at h
   ·cases h
   rename_i b n2 hg
   have e:=hcc _ _ h
   subst e
   exact ⟨b,n2,rfl,h,.inl ⟨h58.1,h58.2,hg⟩⟩
  ·rename_i h58
   have e:=hcc _ _ h
   subst e
   exact ⟨[],n,rfl,h,.inr ⟨h58,rfl,rfl⟩⟩
 clear h
 obtain ⟨b,n2,rfl,hfin,hcase⟩:=hfin
 unfold Ki at hfin
 split at hfin
 case isFalse=>cases hfin
 rename_i hq
 obtain ⟨hq1,hq2,hq3,hq4,hq5⟩:=hq
 clear hfin
 refine aA hI gX fun b2 w' hI=>?_
 refine eH aF ?_
 refine gP (by omega) ?_
 refine av (fun hb=>by cases hb) (fun _=>?_)
 refine Run.call0E eA eE hI (vC f s 0 30 3 hd n S hr (by omega) (by omega) (by omega) (by omega)) fun v I' S1 w'=>?_
 rintro ⟨rfl,cs,rfl,hcs⟩ hE1 hI
 obtain ⟨kv,rfl,_,_,_,a,q,rfl,_⟩:=RdT.iff.1 hcs
 refine ai (v:=.agg _) rfl ?_
 refine ai (v:=.int .i64 (n:Int)) rfl ?_
 refine aA hI aU fun b4 w' hI=>?_
 refine aj hI 1 rfl ac rfl rfl (by simp [Value.oneCell']) fun w' hI=>?_
 refine dU (by omega) ?_
 refine av (fun hb=>by cases hb) (fun _=>?_)
 refine ag hI 1 ac rfl rfl ?_
 refine xk ?_
 refine aA hI gX fun b6 w' hI=>?_
 refine aj hI 2 rfl cD rfl rfl (by simp [Value.oneCell']) fun w' hI=>?_
 obtain ⟨B2,hB2⟩:∃ B2,B2=Item.blk b2 (.cells #[.int .i64 0,.int .i64 0,.string ⟨#[]⟩,.slice none 0 0,.slice none 0 0] aQ):=⟨_,rfl⟩
 obtain ⟨B4,hB4⟩:∃ B4,B4=Item.blk b4 (.cells #[.int .i64 hd.kind,.int .i64 hd.n,.string hd.name,.slice a hd.kids.length q] ab):=⟨_,rfl⟩
 have hI:Inv w [] [B2,B4,.blk b6 (.cells #[.int .i64 hd.kind,.int .i64 hd.n,.string hd.name,.slice a hd.kids.length q,.slice none 0 0] aQ)] S1 w':=by rw [hB2,hB4]; exact hI
 refine ⟨fun v w'=>∃ (kb:Value) (S2:ae),v=.int .i64 (n2:Int)/\Ext w.heap.size [] S S2/\RdT S2 [.int .i64 hd.kind,.int .i64 hd.n,.string hd.name,.slice a hd.kids.length q] hd/\RdSl S2 4 (RdT S2) kb b/\
   Inv w [] [B2,B4,.blk b6 (.cells #[.int .i64 hd.kind,.int .i64 hd.n,.string hd.name,.slice a hd.kids.length q,kb] aQ)] S2 w',?_,?_⟩
 ·refine ⟨fun v w'=>v=.bool (sgn s n 58 && sgn s (n+1) 45)/\Inv w [] [B2,B4,.blk b6 (.cells #[.int .i64 hd.kind,.int .i64 hd.n,.string hd.name,.slice a hd.kids.length q,.slice none 0 0] aQ)] S1 w',?_,?_⟩
  ·refine Run.callPure ct cw hI (cg s n 58 S1) fun w' hI=>?_
   cases h58:sgn s n 58
   ·refine rpG ?_
    exact ⟨by rw [Bool.false_and],hI⟩
   ·refine rpG ?_
    refine dM (a:=n) (b:=1) rfl rfl (by omega) ?_
    refine Run.callPure ct cw hI (cg s (n+1) 45 S1) fun w' hI=>?_
    refine rpG ?_
    exact ⟨by rw [Bool.true_and],hI⟩
  intro t29 _ _ _ _ _ _ _ _ w'
  rintro ⟨rfl,hI⟩
  rcases hcase with ⟨h1,h2,hg⟩|⟨h1,rfl,rfl⟩
  ·rw [h1,h2]
   refine av (fun _=>?_) (fun hb=>by cases hb)
   have h3:=gd h2
   refine dM (a:=n) (b:=2) rfl rfl (by omega) ?_
   refine Run.call0E uo rH hI (p6 hg (by omega) (by omega)) fun v I' S2 w'=>?_
   rintro ⟨rfl,u,rfl,hu⟩ hE2 hI
   obtain ⟨p,m,rfl,_⟩:=id hu
   refine ai (v:=.slice p b.length m) rfl ?_
   refine ai (v:=.int .i64 (n2:Int)) rfl ?_
   refine cP hI 2 rfl cC al rfl rfl rfl fun w' hI=>?_
   exact ⟨_,S2,rfl,hE1.trans hE2,RdT.mono hE2.1 hcs,hu,hI⟩
  ·have e:(sgn s n2 58 && sgn s (n2+1) 45)=false:=by
    rw [Bool.eq_false_iff,ne_eq,Bool.and_eq_true]; exact h1
   rw [e]
   refine av (fun hb=>by cases hb) (fun _=>?_)
   exact ⟨_,S1,rfl,hE1,hcs,mv S1,hI⟩
 intro t5 _ _ _ _ _ _ _ _ _ _ _ _ _ _ _ _ _ w'
 rintro ⟨kb,S2,rfl,hE2,hhd,hb,hI⟩
 have hC:RdC S2 [.int .i64 hd.kind,.int .i64 hd.n,.string hd.name,.slice a hd.kids.length q,kb] ⟨hd,b⟩:=⟨[.int .i64 hd.kind,.int .i64 hd.n,.string hd.name,.slice a hd.kids.length q],kb,rfl,hhd,hb⟩
 refine ⟨fun v w'=>v=.bool false/\Inv w [] [B2,B4,.blk b6 (.cells #[.int .i64 hd.kind,.int .i64 hd.n,.string hd.name,.slice a hd.kids.length q,kb] aQ)] S2 w',?_,?_⟩
 ·refine eH aF ?_
  refine gy (by omega) ?_
  refine dt ?_
  rw [decide_eq_true (show (n2:Int)=(s.length:Int) - 1 by omega)]
  refine au (b:=false) ?_
  refine Run.callPure ct cw hI (cg s n2 46 S2) fun w' hI=>?_
  refine bW ?_
  rw [hq2]
  refine fM ?_
  refine au (b:=false) ?_
  refine ag hI 2 cD rfl rfl ?_
  refine Run.callPure sS ut hI (qV hf hC hq3 (by omega) hq5 (by omega)) fun w' hI=>?_
  refine C0 ?_
  rw [decide_eq_true rfl]
  refine fM ?_
  exact ⟨rfl,hI⟩
 intro t54 _ _ _ _ _ _ _ _ _ _ _ _ _ _ _ _ w'
 rintro ⟨rfl,hI⟩
 refine av (fun hb=>by cases hb) (fun _=>?_)
 refine ag hI 2 cD rfl rfl ?_
 refine Run.call0E Ez Ev hI (C1 hC (by omega)) fun v I' S3 w'=>?_
 rintro ⟨rfl,ds,M,rfl,rfl,hT⟩ hE3 hI
 obtain ⟨S4,hI,hE4,hins⟩:=hI.pubExt
 have hR4:=hT.rd hins
 have hl5:=hR4.length
 have h15:=hT.one
 subst hB2
 refine aj hI 0 rfl cD (by simpa using hl5) rfl (by simpa using h15) fun w' hI=>?_
 refine aS hI 0 cD rfl (by simpa using hl5) ?_
 exact ⟨_,[],S4,rfl,hI.nil,(hE2.trans hE3).trans hE4,rfl,_,rfl,hR4⟩
def Pv (cs:List Value) (l:Bs):Prop:=cs=[.string (st l)]
theorem Di (s:Bs) (c:Nat) (hs:s.length<=100000):Tri Tryz.prog Hw [.string (st s),.int .u8 (c:Int)] [] S fun v I' S'=>I'=[]/\RdSl S' 1 Pv v (Bj s c s.length 0 0 []):=by
 intro w hI
 refine wj.2 ?_
 dsimp only[wj,aY]
 refine dG hI qN fun v0 w' hI=>?_
 obtain ⟨R,hR⟩:∃ R,R=Bj s c s.length 0 0 []:=⟨_,rfl⟩
 rw [<- hR]
 refine ⟨fun t u v w'=>∃ (i fr:Nat) (acc:List Bs) (css:List (List Value)),t=.int .i64 (i:Int)/\u=.int .i64 (fr:Int)/\acc.length<=i/\((i<=s.length/\fr<=i/\Bj s c (s.length - i) i fr acc=R) ∨ (i=s.length+1/\acc=R))/\Rows 1 Pv css acc/\Inv w [] [aP v ff 1 css] S w',
  fun t _ _ _=>s.length+2 - (intOf t).toNat,⟨0,0,[],[],rfl,rfl,Nat.le_refl _,.inl ⟨Nat.zero_le _,Nat.le_refl _,hR.symm⟩,Rows.nil _ _,hI⟩,?_⟩
 intro t7 _ _ t6 _ _ t5 _ _ _ _ _ _ _ _ _ _ _ _ _ _ _ _ _ _ _ _ _ _ w'
 rintro ⟨i,fr,acc,css,rfl,rfl,hal,hc,hRw,hI⟩
 have hcl:=hRw.hc
 refine eH aF ?_
 refine fi ?_
 refine aN (fun hi=>?_) (fun hi=>?_)
 ·have hi':i<=s.length:=by omega
  obtain ⟨_,hfr,hcut⟩:i<=s.length/\fr<=i/\Bj s c (s.length - i) i fr acc=R:=by
   rcases hc with h|h
   ·exact h
   ·omega
  obtain ⟨br,hbr⟩:∃ br,br=(decide (i=s.length) || sgn s i c):=⟨_,rfl⟩
  refine ⟨fun u v w'=>∃ (fr':Nat) (acc':List Bs) (css':List (List Value)),u=.int .i64 (fr':Int)/\acc'.length<=i+1/\fr'<=i+1/\acc'=(if br=true then acc++[cut s fr i] else acc)/\fr'=(if br=true then i+1 else fr)/\Rows 1 Pv css' acc'/\Inv w [] [aP v ff 1 css'] S w',?_,?_⟩
  ·refine ⟨fun b w'=>b=.bool br/\Inv w [] [aP t5 ff 1 css] S w',?_,?_⟩
   ·refine eH aF ?_
    by_cases he:i=s.length
    ·refine dx (by omega) ?_
     refine rpG ?_
     exact ⟨by rw [hbr,decide_eq_true he,Bool.true_or],hI⟩
    ·refine cQ (by omega) ?_
     refine rpG ?_
     have hlt:i<s.length:=by omega
     refine dy aF hlt ?_
     refine bh ?_
     refine rpG ?_
     refine ⟨?_,hI⟩
     rw [hbr,decide_eq_false he,Bool.false_or,jE hlt]
     congr 1
     rw [decide_eq_decide]
     omega
   intro t25 _ _ _ _ _ _ _ _ _ _ w'
   rintro ⟨rfl,hI⟩
   refine av (fun hb=>?_) (fun hb=>?_)
   ·refine yE aF hfr hi' ?_
    refine zj (css:=css) hI 0 qN rfl rfl rfl (by omega) (by omega) fun v' w' hI=>?_
    refine dM (a:=i) (b:=1) rfl rfl (by omega) ?_
    refine ⟨i+1,acc++[cut s fr i],_,rfl,by rw [List.length_append]; simp only [List.length_cons,List.length_nil]; omega,Nat.le_refl _,by rw [if_pos hb],by rw [if_pos hb],hRw.snoc rfl rfl,hI⟩
   ·exact ⟨fr,acc,css,rfl,by omega,by omega,by rw [if_neg (by rw [hb]; decide)],by rw [if_neg (by rw [hb]; decide)],hRw,hI⟩
  intro t6 _ _ t5 _ _ _ _ _ _ _ _ _ _ _ _ _ _ _ _ _ _ w'
  rintro ⟨fr',acc',css',rfl,hal',hfr',hacc',hfe,hRw',hI⟩
  refine dM (a:=i) (b:=1) rfl rfl (by omega) ?_
  refine ⟨⟨i+1,fr',acc',css',rfl,rfl,hal',?_,hRw',hI⟩,by simp only [intOf,Int.toNat_natCast]; omega⟩
  by_cases he:i=s.length
  ·right
   refine ⟨by rw [he],?_⟩
   rw [he,Nat.sub_self,Bj,<- he] at hcut
   rw [hacc',if_pos (by rw [hbr,decide_eq_true he,Bool.true_or])]
   exact hcut
  ·left
   refine ⟨by omega,hfr',?_⟩
   rw [show s.length - i=(s.length - (i+1))+1 by omega,Bj] at hcut
   rw [hbr,decide_eq_false he,Bool.false_or] at hacc' hfe
   split at hcut
   ·rename_i hsg
    rw [if_pos hsg] at hacc' hfe
    rw [hacc',hfe]
    exact hcut
   ·rename_i hsg
    rw [if_neg hsg] at hacc' hfe
    rw [hacc',hfe]
    exact hcut
 ·obtain ⟨_,rfl⟩:i=s.length+1/\acc=R:=by
   rcases hc with h|h
   ·omega
   ·exact h
  have hI2:Inv w [] ([]++[aP t5 ff 1 css]) S w':=hI
  obtain ⟨S1,hE1,hrd,hI⟩:=Inv.lendExt hI2
  exact ⟨_,[],S1,rfl,hI,hE1,rfl,RowRd.rows hRw hrd⟩
theorem A5 {f:Nat} {ls:List Bs} {i:Nat} (h:i<ls.length) (acc:List C):jO f (ls.drop i) acc=match tO f ls[i] with
  | none=>none
  | some c=>jO f (ls.drop (i+1)) (acc++[c]):=by
 rw [List.drop_eq_getElem_cons h,jO]
 cases tO f ls[i] <;> rfl
theorem qW {f:Nat} (hf:f<=100) {s:Bs} {p:List C} (h:Jl f s=some p) (hs:s.length<=100000):Tri Tryz.prog kY [.string (st s)] [] S fun v I' S'=>∃ u css,v=.tuple #[u,.bool true]/\I'=[aP u aQ 5 css]/\Rows 5 (RdC S') css p:=by
 intro w hI
 refine kA.2 ?_
 dsimp only[kA,aE]
 unfold Jl Mm at h
 refine dG hI vJ fun v0 w' hI=>?_
 refine Run.call0E Fd E9 hI (Di s 10 hs) fun v I' S1 w'=>?_
 rintro ⟨rfl,hls⟩ hE1 hI
 have hI:Inv w [] [aP v0 aQ 5 []] S1 w':=hI
 obtain ⟨ls,hlsd⟩:∃ ls,ls=Bj s 10 s.length 0 0 []:=⟨_,rfl⟩
 rw [<- hlsd] at hls h
 simp only [] at h
 split at h
 ·cases h
 rename_i hc
 simp only [not_or,ne_eq,Classical.not_not] at hc
 obtain ⟨hc1,hc2⟩:=hc
 have hl0:0<ls.length:=by
  cases ls with
  | nil=>simp at hc2
  | cons a l=>simp
 have hlast:ls[ls.length - 1]=[]:=by
  rw [List.getLast?_eq_getElem?,List.getElem?_eq_getElem (by omega)] at hc2
  exact Option.some.inj hc2
 refine ⟨fun b w'=>b=.bool false/\Inv w [] [aP v0 aQ 5 []] S1 w',?_,?_⟩
 ·refine aK hls bH ?_
  refine gP (by omega) ?_
  refine rpG ?_
  refine aK hls bH ?_
  refine zE (a:=ls.length) (b:=1) rfl rfl (by omega) (by omega) ?_
  have hlt:ls.length - 1<ls.length:=by omega
  obtain ⟨b,o,cap,c,E,fz,hv,hS,hR⟩:=hls.at_ hlt
  subst hv
  refine ay bH hlt ?_
  refine dd aC ((hI.cellS hS).trans (aD hR 0 _ rfl)) ?_
  refine C0 (b:=[]) ?_
  rw [decide_eq_true hlast]
  refine rpG ?_
  exact ⟨rfl,hI⟩
 intro t23 _ _ _ _ _ _ _ _ _ _ _ w'
 rintro ⟨rfl,hI⟩
 refine av (fun hb=>by cases hb) (fun _=>?_)
 refine ⟨fun a b w'=>∃ (i:Nat) (acc:List C) (S2:ae) (css:List (List Value)),a=.int .i64 (i:Int)/\i+1<=ls.length/\acc.length=i/\jO f (ls.dropLast.drop i) acc=some p/\Sle S1 S2/\Ext w.heap.size [] S S2/\Rows 5 (RdC S2) css acc/\Inv w [] [aP b aQ 5 css] S2 w',
  fun a _ _=>ls.length - (intOf a).toNat,⟨0,[],S1,[],rfl,by omega,rfl,h,Sle.refl _,hE1,Rows.nil _ _,hI⟩,?_⟩
 intro t6 _ _ t4 _ _ _ _ _ _ _ _ _ _ _ _ _ _ _ _ _ _ _ _ _ _ _ _ w'
 rintro ⟨i,acc,S2,css,rfl,hi,hal,hcl,hle2,hE2,hR,hI⟩
 have hcs:=hR.hc
 refine dM (a:=i) (b:=1) rfl rfl (by omega) ?_
 refine aK hls bH ?_
 refine bD ?_
 have hdl:ls.dropLast.length=ls.length - 1:=List.length_dropLast
 refine aN (fun hlt=>?_) (fun hge=>?_)
 ·have hi':i<ls.length:=by omega
  have hi2:i<ls.dropLast.length:=by omega
  rw [A5 hi2] at hcl
  have eg:ls.dropLast[i]=ls[i]:=List.getElem_dropLast _
  rw [eg] at hcl
  obtain ⟨b,o,cap,c,E,fz,hv,hS,hRr⟩:=hls.at_ hi'
  subst hv
  split at hcl
  ·cases hcl
  rename_i cl hclf
  refine ay bH hi' ?_
  refine dd aC ((hI.cellS (hle2 _ _ hS)).trans (aD hRr 0 _ rfl)) ?_
  refine Run.call0E uV uN hI (sP hf hclf) fun v I' S3 w'=>?_
  rintro ⟨rfl,ds,rfl,hds⟩ hE3 hI
  have hl5:=hds.length
  have hR3:=hR.monoR fun _ _ h=>RdC.mono hE3.1 h
  refine ai (v:=.agg ds.toArray) rfl ?_
  refine ai (v:=.bool true) rfl ?_
  refine aA hI gX fun b7 w' hI=>?_
  refine aj hI 1 rfl cD (by simpa using hl5) rfl (by simpa using hds.one) fun w' hI=>?_
  refine bW ?_
  refine av (fun hb=>by cases hb) (fun _=>?_)
  refine ag hI 1 cD rfl (by simpa using hl5) ?_
  refine fU (css:=css) hI 0 _ vJ (by omega) (by omega) rfl hl5 hds.one (by omega) (by omega) fun v' w' hI=>?_
  have hI:Inv w [] [aP v' aQ 5 (css++[ds])] S3 w':=hI.pick [true,false]
  refine dM (a:=i) (b:=1) rfl rfl (by omega) ?_
  exact ⟨⟨i+1,acc++[cl],S3,_,rfl,by omega,by rw [List.length_append,hal]; rfl,hcl,hle2.trans hE3.1,hE2.trans hE3,hR3.snoc hds hl5,hI⟩,by simp only [intOf,Int.toNat_natCast]; omega⟩
 ·have hi2:ls.dropLast.length<=i:=by omega
  rw [List.drop_eq_nil_of_le hi2,jO] at hcl
  simp only [Option.some.injEq] at hcl
  subst hcl
  exact ⟨_,_,S2,rfl,hI,hE2,_,css,rfl,rfl,hR⟩
end
end
section
open Go Go.RowKit
attribute [local irreducible] Run CondV ar aI

def pe (t u:T):Bool:=decide (t.kind=u.kind) && (decide (t.n=u.n) && (decide (t.name=u.name) && decide (t.kids.length=u.kids.length)))
theorem ig (k n k' n':Int) (s s':ByteArray) (ks ks':List T):pe (.mk k n s ks) (.mk k' n' s' ks')=(decide (k=k') && (decide (n=n') && (decide (s=s') && decide (ks.length=ks'.length)))):=rfl
theorem OE {α β:Type} (a:List α) (b:List β):decide (a.length=b.length)=decide ((a.length:Int)=(b.length:Int)):=by
 rw [Bool.eq_iff_iff]
 simp only [decide_eq_true_eq]
 omega
theorem O3 (t u:T):eqT t u=(pe t u && eqL t.kids u.kids):=by
 obtain ⟨k,n,s,ks⟩:=t
 obtain ⟨k',n',s',ks'⟩:=u
 rw [eqT,ig]
 by_cases h:ks.length=ks'.length
 ·rw [decide_eq_true h,Bool.and_true,Bool.and_assoc,Bool.and_assoc]; rfl
 ·rw [Jw h,decide_eq_false h]; simp
theorem lj:∀ (t u:T) (S:ae) (cs ds:List Value),RdT S cs t->RdT S ds u->Pure Tryz.prog DW [.agg cs.toArray,.agg ds.toArray] S (.bool (eqT t u)):=by
 refine T.ind fun k n s ks ih u S cs ds h h'=>?_
 intro w hI
 obtain ⟨kv,rfl,_,_,_,hks⟩:=RdT.iff.1 h
 obtain ⟨kv',rfl,_,_,_,hks'⟩:=RdT.iff.1 h'
 obtain ⟨k',n',s',ks'⟩:=u
 simp only [T.name,T.kids,T.kind,T.n] at hks hks' ⊢
 have hlen:=hks.le
 simp only [maxLen] at hlen
 refine qx.2 ?_
 dsimp only[qx,aY]
 refine be hI fun b1 w' hI=>?_
 refine be hI fun b2 w' hI=>?_
 have hI:Inv w [] [.blk b1 (.cells #[.int .i64 k,.int .i64 n,.string s,kv] ab),.blk b2 (.cells #[.int .i64 k',.int .i64 n',.string s',kv'] ab)] S w':=hI
 refine ⟨fun q w'=>q=.bool (!pe (.mk k n s ks) (.mk k' n' s' ks'))/\Inv w [] [.blk b1 (.cells #[.int .i64 k,.int .i64 n,.string s,kv] ab),.blk b2 (.cells #[.int .i64 k',.int .i64 n',.string s',kv'] ab)] S w',?_,?_⟩
 ·refine ad hI 0 rfl aM aw rfl ?_
  refine ad hI 1 rfl aM aw rfl ?_
  refine dt ?_
  by_cases e1:k=k'
  ·rw [decide_eq_true e1]
   refine rpG ?_
   refine ad hI 0 rfl aR aw rfl ?_
   refine ad hI 1 rfl aR aw rfl ?_
   refine dt ?_
   by_cases e2:n=n'
   ·rw [decide_eq_true e2]
    refine rpG ?_
    refine ad hI 0 rfl aH aC rfl ?_
    refine ad hI 1 rfl aH aC rfl ?_
    refine IX ?_
    by_cases e3:s=s'
    ·rw [decide_eq_true e3]
     refine rpG ?_
     refine ad hI 0 rfl ak al rfl ?_
     refine aK hks ah ?_
     refine ad hI 1 rfl ak al rfl ?_
     refine aK hks' ah ?_
     refine dt ?_
     refine rpG ?_
     exact ⟨by rw [ig,decide_eq_true e1,decide_eq_true e2,decide_eq_true e3,OE]; rfl,hI⟩
    ·rw [decide_eq_false e3]
     refine rpG ?_
     exact ⟨by rw [ig,decide_eq_true e1,decide_eq_true e2,decide_eq_false e3]; rfl,hI⟩
   ·rw [decide_eq_false e2]
    refine rpG ?_
    exact ⟨by rw [ig,decide_eq_true e1,decide_eq_false e2]; rfl,hI⟩
  ·rw [decide_eq_false e1]
   refine rpG ?_
   exact ⟨by rw [ig,decide_eq_false e1]; rfl,hI⟩

 intro q _ _ _ _ _ _ _ _ _ _ _ _ _ _ _ _ _ _ _ _ _ _ _ _ _ _ _ w'
 rintro ⟨rfl,hI⟩
 rw [O3]
 cases hd:pe (.mk k n s ks) (.mk k' n' s' ks')
 ·refine av (fun _=>done hI rfl) (fun hb=>by cases hb)
 refine av (fun hb=>by cases hb) (fun _=>?_)
 have hle:ks.length=ks'.length:=by
  rw [ig] at hd
  simp only [Bool.and_eq_true,decide_eq_true_eq] at hd
  exact hd.2.2.2
 simp only [T.kids,Bool.true_and]
 refine ⟨fun i w'=>∃ j:Nat,j<=ks.length/\i=.int .i64 j/\eqL (ks.drop j) (ks'.drop j)=eqL ks ks'/\Inv w [] [.blk b1 (.cells #[.int .i64 k,.int .i64 n,.string s,kv] ab),.blk b2 (.cells #[.int .i64 k',.int .i64 n',.string s',kv'] ab)] S w',fun i _=>ks.length - (intOf i).toNat,⟨0,Nat.zero_le _,rfl,rfl,hI⟩,?_⟩
 intro t5 _ _ _ _ _ _ _ _ _ _ _ _ _ _ _ _ _ _ _ _ w'
 rintro ⟨j,hj,rfl,hrel,hI⟩
 refine ad hI 0 rfl ak al rfl ?_
 refine aK hks ah ?_
 refine bD ?_
 refine aN (fun hji=>?_) (fun hji=>?_)
 ·have hj1:j<ks.length:=by omega
  have hj2:j<ks'.length:=by omega
  obtain ⟨c1,o1,cap1,a1,E1,fz1,rfl,hS1,hR1⟩:=hks.at_ hj1
  obtain ⟨c2,o2,cap2,a2,E2,fz2,rfl,hS2,hR2⟩:=hks'.at_ hj2
  have hstep:eqL (ks.drop j) (ks'.drop j)=(eqT ks[j] ks'[j] && eqL (ks.drop (j+1)) (ks'.drop (j+1))):=by
   rw [List.drop_eq_getElem_cons hj1,List.drop_eq_getElem_cons hj2,eqL]
  refine ⟨fun D kq rq rP sg pK lW nU mf kB iE jb iD w_=>Fx D 0 [iD=.pointer (some ⟨b1,3,none⟩),jb=.slice (some ⟨c1,o1,none⟩) ks.length cap1,iE=.int .i64 j,kB=.pointer (some ⟨c1,o1+j * 4,none⟩),mf=.agg (aL a1 (o1+j * 4) 4).toArray,nU=.pointer (some ⟨b2,3,none⟩),lW=.slice (some ⟨c2,o2,none⟩) ks'.length cap2,pK=.int .i64 j,sg=.pointer (some ⟨c2,o2+j * 4,none⟩),rP=.agg (aL a2 (o2+j * 4) 4).toArray,rq=.bool (eqT ks[j] ks'[j]),kq=.bool (!eqT ks[j] ks'[j])]/\Inv w [] [.blk b1 (.cells #[.int .i64 k,.int .i64 n,.string s,.slice (some ⟨c1,o1,none⟩) ks.length cap1] ab),.blk b2 (.cells #[.int .i64 k',.int .i64 n',.string s',.slice (some ⟨c2,o2,none⟩) ks'.length cap2] ab)] S w_,⟨Fx.nil _ _,hI.draw⟩,⟨?_,?_,?_,?_,?_,?_,?_,?_,?_,?_,?_,?_,trivial⟩,?_⟩
  all_goals (intro D bw; intros; rename_i kq rq rP sg pK lW nU mf kB iE jb iD w_ hA_; have hF_:=hA_.1; obtain ⟨⟨bQ,bS,bU,bR,bY,bZ,bO,cG,cS,cT,bL,co,_⟩,hI⟩:=hA_)
  ·refine ao ak ?_
   exact ⟨hF_.set 0 rfl,hI⟩
  ·obtain rfl:=bQ ‹_›
   refine ax hI 0 al rfl rfl ?_
   exact ⟨hF_.set 1 rfl,hI⟩
  ·exact ⟨hF_.set 2 rfl,hI⟩
  ·obtain rfl:=bS ‹_›
   obtain rfl:=bU ‹_›
   refine ay ah hj1 ?_
   exact ⟨hF_.set 3 rfl,hI⟩
  ·obtain rfl:=bR ‹_›
   refine ci ac hR1.length (fun j v hj=>by rw [hI.cellS hS1]; exact aD rfl j v hj) ?_
   exact ⟨hF_.set 4 rfl,hI⟩
  ·refine ao ak ?_
   exact ⟨hF_.set 5 rfl,hI⟩
  ·obtain rfl:=bZ ‹_›
   refine ax hI 1 al rfl rfl ?_
   exact ⟨hF_.set 6 rfl,hI⟩
  ·exact ⟨hF_.set 7 rfl,hI⟩
  ·obtain rfl:=bO ‹_›
   obtain rfl:=cG ‹_›
   refine ay ah hj2 ?_
   exact ⟨hF_.set 8 rfl,hI⟩
  ·obtain rfl:=cS ‹_›
   refine ci ac hR2.length (fun j v hj=>by rw [hI.cellS hS2]; exact aD rfl j v hj) ?_
   exact ⟨hF_.set 9 rfl,hI⟩
  ·obtain rfl:=bY ‹_›
   obtain rfl:=cT ‹_›
   refine Run.callPure kQ kS hI (ih _ (List.getElem_mem hj1) _ S _ _ hR1 hR2) fun w_ hI=>?_
   exact ⟨hF_.set 10 rfl,hI⟩
  ·obtain rfl:=bL ‹_›
   refine bW ?_
   exact ⟨hF_.set 11 rfl,hI⟩
  obtain ⟨rfl,rfl,rfl,rfl,rfl,rfl,rfl,rfl,rfl,rfl,rfl,rfl,_⟩:=hF_.all
  clear hF_ bQ bS bU bR bY bZ bO cG cS cT bL co
  refine av (fun hne=>?_) (fun he'=>?_)
  ·exact done hI (by rw [<- hrel,hstep]; simp at hne; rw [hne]; rfl)
  ·refine bm (by omega) ?_
   refine ⟨⟨j+1,hj1,rfl,?_,hI⟩,by simp [intOf]; omega⟩
   rw [<- hrel,hstep]
   simp at he'
   rw [he',Bool.true_and]
 ·have:j=ks.length:=by omega
  subst this
  refine done hI ?_
  rw [<- hrel,List.drop_length,hle,List.drop_length]
  rfl
end
end Go.Proofs.YtbocelianhcfmaaGreatDoor
