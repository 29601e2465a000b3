/- Clauses and programs read: spec.l4Text, FormatClause, l4Goals, ParseClause, l18Cut, ParseProgram. -/
import Derived.Test.YtnmnddpdikghhaaGreatZr5
import Derived.Test.YtnmnddpdikghhaaGreatZr1
import Derived.Test.YtnmnddpdikghhaaGreatZr2
namespace Go.Proofs.YtnmnddpdikghhaaGreat
open Go Go.RowKit
theorem uC:∀ (f:Nat) (l:List T) (b:Bool) (out x:Bs),v3 f l b out=some x->out.length<=x.length
 | _,[],_,out,x,h=>by simp only [v3,Option.some.injEq] at h; subst h; exact Nat.le_refl _
 | f,t::l,b,out,x,h=>by
  rw [v3] at h
  split at h
  ·cases h
  ·have:=uC f _ _ _ _ h
   simp only [List.length_append] at this
   omega
section
variable {w0 w:World} {X:List Nat} {L:List Item} {S:ay} {P:Program} {K:Value->World->Prop}
attribute [local irreducible] Run CondV ai a4
theorem G8 (h:Inv w0 X L S w) {T ty e:TypeId} {by_:Nat} {z v x:Value} {cs:List Bool} {css:List (List Value)} (i:Nat)
  (hT:oQ P T=some (e,1,by_,z)) (hi:L[i]?=some (a5 v e 1 css)) (hx:x.cells=#[x]) (h1:x.oneCell'=true) (hfit:css.length+1<=4294967296) (hby:by_<=32768)
  (hk:∀ v' w',Inv w0 X (L.set i (a5 v' e 1 (css++[[x]]))) S w'->K v' w') :
  Run P (aQ T 1 [(0,x)]) w fun u w'=>Run P (aE .append #[T,T] ty cs [v,u]) w' K:=by
 refine dJ h hT (by rw [hx]; rfl) (by omega) (by omega) fun b w' hI=>?_
 have hil:i<L.length:=(List.getElem?_eq_some_iff.1 hi).1
 refine ev hI i [x] hT (by omega) (by rw [List.getElem?_append_left hil]; exact hi) (by simp) (m:=1) (o:=0) ?_ (by simpa using h1) hfit hby fun v' w' hI=>?_
 ·intro j u hj
  rw [hI.cellL (i:=L.length) (by rw [List.getElem?_append_right (Nat.le_refl _),Nat.sub_self]; rfl)]
  rw [Nat.zero_add,hx]
  simpa using hj
 ·refine hk _ _ ?_
  rw [<- eN]
  rw [List.set_append_left _ _ hil] at hI
  exact hI.sub (List.sublist_append_left _ _)
end
section
variable {S:ay}
attribute [local irreducible] Run CondV ai a4
theorem B9 {f:Nat} (hf:f<=100) {c:C} {cs:List Value} {x:Bs} (h:RdC S cs c) (hx:HK f c=some x) (hl:x.length<=1000000):Pure Tryz.prog FW [.agg cs.toArray] S (.string (st x)):=by
 intro w hI
 obtain ⟨hd,ks,rfl,h1,h2⟩:=h
 have h1':=h1
 obtain ⟨kv,rfl,_⟩:=RdT.iff.1 h1
 unfold HK at hx
 split at hx
 ·cases hx
 rename_i y hy
 split at hx
 ·cases hx
 rename_i z hz
 simp only [Option.some.injEq] at hx
 have hzx:z.length+1=x.length:=by rw [<- hx,List.length_append]; rfl
 have hyz:=uC _ _ _ _ _ hz
 have hb:c.body.length<=9223372036854775807:=by have:=h2.le; simpa [maxLen] using this
 refine zF ?_
 unfold vW
 refine bN hI fun b1 w' hI=>?_
 have hI:Inv w [] [.blk b1 (.cells #[.int .i64 c.head.kind,.int .i64 c.head.n,.string c.head.name,kv,ks] ac)] S w':=hI
 refine bj bQ ?_
 refine cY hI 0 [.int .i64 c.head.kind,.int .i64 c.head.n,.string c.head.name,kv] ag rfl rfl n3 ?_
 refine Run.callPure gl gf hI (Bw hf _ y S _ hy (by omega) h1') fun w' hI=>?_
 refine ⟨fun a b w'=>∃ (j:Nat) (out:Bs),j<=c.body.length/\a=.int .i64 (j:Int)/\b=.string (st out)/\v3 f (c.body.drop j) (decide (j=0)) out=some z/\Inv w [] [.blk b1 (.cells #[.int .i64 c.head.kind,.int .i64 c.head.n,.string c.head.name,kv,ks] ac)] S w',
  fun a _ _=>c.body.length - (intOf a).toNat,⟨0,y,Nat.zero_le _,rfl,rfl,hz,hI⟩,?_⟩
 intro t4 _ _ _ _ _ _ _ _ _ _ _ _ t3 _ _ _ _ _ _ _ _ _ w'
 rintro ⟨j,out,hj,rfl,rfl,hbf,hI⟩
 refine ar hI 0 rfl bl aL rfl ?_
 refine bm h2 aG ?_
 refine cF ?_
 refine bF (fun hji=>?_) (fun hji=>?_)
 ·have hj':j<c.body.length:=by omega
  rw [List.drop_eq_getElem_cons hj',v3] at hbf
  split at hbf
  ·cases hbf
  rename_i u hu
  have hlen:=uC _ _ _ _ _ hbf
  simp only [List.length_append] at hlen
  obtain ⟨pre,hpre⟩:∃ pre:Bs,pre=if decide (j=0)=true then [58,45] else [44]:=⟨_,rfl⟩
  rw [<- hpre] at hbf hlen
  refine ⟨fun b w'=>b=.string (st (out++pre))/\Inv w [] [.blk b1 (.cells #[.int .i64 c.head.kind,.int .i64 c.head.n,.string c.head.name,kv,ks] ac)] S w',?_,?_⟩
  ·refine bO ?_
   refine bF (fun h0=>?_) (fun h0=>?_)
   ·rw [if_pos (decide_eq_true (by omega))] at hpre
    subst hpre
    refine dP (b:=[58,45]) (by omega) ?_
    exact ⟨rfl,hI⟩
   ·rw [if_neg (by rw [decide_eq_true_eq]; omega)] at hpre
    subst hpre
    refine dP (b:=[44]) (by omega) ?_
    exact ⟨rfl,hI⟩
  intro _ _ t3 _ _ _ _ w'
  rintro ⟨rfl,hI⟩
  refine ar hI 0 rfl bl aL rfl ?_
  refine dN hI h2 aG ag hj' (fun _ _=>RdT.length) fun es hes=>?_
  refine Run.callPure gl gf hI (Bw hf _ u S _ hu (by omega) hes) fun w' hI=>?_
  refine dP (by rw [List.length_append]; omega) ?_
  refine bR (by omega) ?_
  refine ⟨⟨j+1,out++pre++u,hj',rfl,rfl,?_,hI⟩,by simp only [intOf,Int.toNat_natCast]; omega⟩
  rw [decide_eq_false (by omega)]
  exact hbf
 ·have:j=c.body.length:=by omega
  subst this
  rw [List.drop_length,v3] at hbf
  simp only [Option.some.injEq] at hbf
  subst hbf
  refine dP (b:=[46]) (by simp only [List.length_cons,List.length_nil]; omega) ?_
  exact done hI (by rw [<- hx])
theorem qe {f:Nat} (hf:f<=100) {c:C} {cs:List Value} {x:Bs} (h:RdC S cs c) (hc:bG c=true) (hw:wC c<=1048576) (hx:HK f c=some x) (hl:x.length<=1000000):Pure Tryz.prog tR [.agg cs.toArray] S (.string (st x)):=by
 intro w hI
 have h0:=h
 obtain ⟨hd,ks,rfl,h1,h2⟩:=h
 obtain ⟨kv,rfl,_⟩:=RdT.iff.1 h1
 refine oy ?_
 unfold kC
 refine bN hI fun b1 w' hI=>?_
 refine aO hI 0 aI rfl rfl ?_
 refine Run.callPure gz gx hI (fH h0 hw) fun w' hI=>?_
 refine cN ?_
 rw [hc]
 refine a7 (fun hb=>by cases hb) (fun _=>?_)
 refine aO hI 0 aI rfl rfl ?_
 refine Run.callPure Eo Ey hI (B9 hf h0 hx hl) fun w' hI=>?_
 exact done hI rfl
theorem pz {f k:Nat} {s:Bs} {i:Nat} {ts:List T} {n:Nat} (h:lG f k s i []=some (ts,n)) (hs:s.length<=100000) (hi:i<=s.length):Tri Tryz.prog DB [.string (st s),.int .i64 (i:Int)] [] S (Ld ts n):=by
 intro w hI
 refine wD ?_
 unfold se
 refine gN hI bC fun v0 w' hI=>?_
 refine ⟨fun a b w'=>∃ (k' i':Nat) (acc:List T) (S1:ay) (css:List (List Value)),a=.int .i64 (i':Int)/\i'<=s.length/\lG f k' s i' acc=some (ts,n)/\Ext w.heap.size [] S S1/\Rows 4 (RdT S1) css acc/\(∃ p m,b=.slice p acc.length m)/\Inv w [] [a5 b ab 4 css] S1 w',
  fun a _ _=>s.length+1 - (intOf a).toNat,⟨k,i,[],S,[],rfl,hi,h,Ext.refl _ _ _,Rows.nil _ _,?_,hI⟩,?_⟩
 ·have hI2:Inv w [] ([]++[a5 v0 ab 4 []]) S w':=hI
  obtain ⟨S1,_,hrd,_⟩:=Inv.lendExt hI2
  obtain ⟨p,m,e,_⟩:=RowRd.rows (Rows.nil 4 (RdT S)) hrd
  exact ⟨p,m,e⟩
 intro t1 _ _ _ _ _ _ _ _ t6 _ _ _ _ _ _ _ _ _ _ _ _ _ _ _ _ _ _ _ w'
 rintro ⟨k',i',acc,S1,css,rfl,hi2,hT,hE,hR,⟨p,m,rfl⟩,hI⟩
 have hcl:=hR.hc
 cases k' with
 | zero=>simp [lG] at hT
 | succ g=>
 rw [lG] at hT
 split at hT
 ·cases hT
 rename_i h6
 split at hT
 ·cases hT
 rename_i t n' hr
 have hle:=(gS f).1 _ _ _ _ _ _ hr
 refine iE aG ?_
 refine Ci (by omega) ?_
 refine a7 (fun _=>?_) (fun hb=>by cases hb)
 refine Run.call0E gn gq hI (BI f s i' 30 3 t n' S1 hr hs hi2 (by omega) (by omega)) fun v I' S2 w'=>?_
 rintro ⟨rfl,cs,rfl,hcs⟩ hE2 hI
 have hR2:=hR.monoR fun _ _ h=>RdT.mono hE2.1 h
 obtain ⟨kv,rfl,_,_,_,a,q,rfl,_⟩:=RdT.iff.1 hcs
 refine aT (v:=.agg _) rfl ?_
 refine aT (v:=.int .i64 (n':Int)) rfl ?_
 refine a9 hI bt fun b13 w' hI=>?_
 refine aM hI 1 rfl ag rfl rfl (by simp [Value.oneCell']) fun w' hI=>?_
 refine eU (by omega) ?_
 refine a7 (fun hb=>by cases hb) (fun _=>?_)
 refine aO hI 1 ag rfl rfl ?_
 refine eL (css:=css) hI 0 _ bC (by omega) (by omega) rfl hcs.length hcs.one (by omega) (by omega) fun v' w' hI=>?_
 have hI:Inv w [] [a5 v' ab 4 (css++[[.int .i64 t.kind,.int .i64 t.n,.string t.name,.slice a t.kids.length q]])] S2 w':=hI.pick [true,false]
 have hR3:=hR2.snoc hcs hcs.length
 have hI2:Inv w [] ([]++[a5 v' ab 4 (css++[[.int .i64 t.kind,.int .i64 t.n,.string t.name,.slice a t.kids.length q]])]) S2 w':=hI
 obtain ⟨S3,hE3,hrd,hI3⟩:=Inv.lendExt hI2
 have hrs:=RowRd.rows (hR3.monoR fun _ _ h=>RdT.mono hE3.1 h) hrd
 refine Run.callPure dv du hI (cX s n' 44 S2) fun w' hI=>?_
 refine cN ?_
 split at hT
 ·rename_i h44
  rw [h44]
  refine a7 (fun hb=>by cases hb) (fun _=>?_)
  have:=ic h44
  refine eW (a:=n') (b:=1) rfl rfl (by omega) ?_
  obtain ⟨p',m',e',_⟩:=hrs
  refine ⟨⟨g,n'+1,acc++[t],S2,_,rfl,by omega,hT,hE.trans hE2,hR3,⟨p',m',e'⟩,hI⟩,?_⟩
  simp only [intOf,Int.toNat_natCast]
  omega
 ·rename_i h44
  rw [Bool.eq_false_iff.2 h44]
  refine a7 (fun _=>?_) (fun hb=>by cases hb)
  simp only [Option.some.injEq,Prod.mk.injEq] at hT
  obtain ⟨rfl,rfl⟩:=hT
  have hI2:Inv w [] ([]++[a5 v' ab 4 (css++[[.int .i64 t.kind,.int .i64 t.n,.string t.name,.slice a t.kids.length q]])]) S2 w':=hI
  obtain ⟨S4,hE4,hrd,hI⟩:=Inv.lendExt hI2
  have hrs:=RowRd.rows (hR3.monoR fun _ _ h=>RdT.mono hE4.1 h) hrd
  exact ⟨_,[],S4,rfl,hI,(hE.trans hE2).trans hE4,rfl,_,rfl,hrs⟩
abbrev L3 (c:C) (b:Bool):Value->List Item->ay->Prop:=fun v I' S'=>I'=[]/\∃ cs,v=.tuple #[.agg cs.toArray,.bool b]/\RdC S' cs c
theorem ss {f:Nat} (hf:f<=100) {s:Bs} {c:C} (h:td f s=some c):Tri Tryz.prog v6 [.string (st s)] [] S (L3 c true):=by
 intro w hI
 refine o5 ?_
 unfold ld;dsimp only
 unfold td at h
 split at h
 ·cases h
 rename_i hs
 split at h
 ·cases h
 rename_i hd n hr
 have hle:=(gS f).1 _ _ _ _ _ _ hr
 have hfin:∃ b n2,c=⟨hd,b⟩/\IF f s c n2=some c/\((sgn s n 58=true/\sgn s (n+1) 45=true/\lG f 8 s (n+2) []=some (b,n2)) ∨ (¬ (sgn s n 58=true/\sgn s (n+1) 45=true)/\b=[]/\n2=n)):=by
  have hcc:∀ (c':C) (m:Nat),IF f s c' m=some c->c'=c:=fun c' m h=>by
   unfold IF at h
   split at h
   ·exact Option.some.inj h
   ·cases h
  split at h
  ·rename_i h58
   split at h
   ·cases h
   rename_i b n2 hg
   have e:=hcc _ _ h
   subst e
   exact ⟨b,n2,rfl,h,.inl ⟨h58.1,h58.2,hg⟩⟩
  ·rename_i h58
   have e:=hcc _ _ h
   subst e
   exact ⟨[],n,rfl,h,.inr ⟨h58,rfl,rfl⟩⟩
 clear h
 obtain ⟨b,n2,rfl,hfin,hcase⟩:=hfin
 unfold IF at hfin
 split at hfin
 case isFalse=>cases hfin
 rename_i hq
 obtain ⟨hq1,hq2,hq3,hq4,hq5⟩:=hq
 clear hfin
 refine a9 hI bM fun b2 w' hI=>?_
 refine fE bk ?_
 refine jH (by omega) ?_
 refine a7 (fun hb=>by cases hb) (fun _=>?_)
 refine Run.call0E gn gq hI (BI f s 0 30 3 hd n S hr (by omega) (by omega) (by omega) (by omega)) fun v I' S1 w'=>?_
 rintro ⟨rfl,cs,rfl,hcs⟩ hE1 hI
 obtain ⟨kv,rfl,_,_,_,a,q,rfl,_⟩:=RdT.iff.1 hcs
 refine aT (v:=.agg _) rfl ?_
 refine aT (v:=.int .i64 (n:Int)) rfl ?_
 refine a9 hI bt fun b4 w' hI=>?_
 refine aM hI 1 rfl ag rfl rfl (by simp [Value.oneCell']) fun w' hI=>?_
 refine eU (by omega) ?_
 refine a7 (fun hb=>by cases hb) (fun _=>?_)
 refine aO hI 1 ag rfl rfl ?_
 refine i3 ?_
 refine a9 hI bM fun b6 w' hI=>?_
 refine aM hI 2 rfl aI rfl rfl (by simp [Value.oneCell']) fun w' hI=>?_
 obtain ⟨B2,hB2⟩:∃ B2,B2=Item.blk b2 (.cells #[.int .i64 0,.int .i64 0,.string ⟨#[]⟩,.slice none 0 0,.slice none 0 0] ac):=⟨_,rfl⟩
 obtain ⟨B4,hB4⟩:∃ B4,B4=Item.blk b4 (.cells #[.int .i64 hd.kind,.int .i64 hd.n,.string hd.name,.slice a hd.kids.length q] ab):=⟨_,rfl⟩
 have hI:Inv w [] [B2,B4,.blk b6 (.cells #[.int .i64 hd.kind,.int .i64 hd.n,.string hd.name,.slice a hd.kids.length q,.slice none 0 0] ac)] S1 w':=by rw [hB2,hB4]; exact hI
 refine ⟨fun v w'=>∃ (kb:Value) (S2:ay),v=.int .i64 (n2:Int)/\Ext w.heap.size [] S S2/\RdT S2 [.int .i64 hd.kind,.int .i64 hd.n,.string hd.name,.slice a hd.kids.length q] hd/\RdSl S2 4 (RdT S2) kb b/\
   Inv w [] [B2,B4,.blk b6 (.cells #[.int .i64 hd.kind,.int .i64 hd.n,.string hd.name,.slice a hd.kids.length q,kb] ac)] S2 w',?_,?_⟩
 ·refine ⟨fun v w'=>v=.bool (sgn s n 58 && sgn s (n+1) 45)/\Inv w [] [B2,B4,.blk b6 (.cells #[.int .i64 hd.kind,.int .i64 hd.n,.string hd.name,.slice a hd.kids.length q,.slice none 0 0] ac)] S1 w',?_,?_⟩
  ·refine Run.callPure dv du hI (cX s n 58 S1) fun w' hI=>?_
   cases h58:sgn s n 58
   ·repeat (first|refine ae ?_|refine ah (by decide) ?_|refine ad ?_|refine al ?_|refine aj ?_)
    exact ⟨by rw [Bool.false_and],hI⟩
   ·repeat (first|refine ae ?_|refine ah (by decide) ?_|refine ad ?_|refine al ?_|refine aj ?_)
    refine eW (a:=n) (b:=1) rfl rfl (by omega) ?_
    refine Run.callPure dv du hI (cX s (n+1) 45 S1) fun w' hI=>?_
    repeat (first|refine ae ?_|refine ah (by decide) ?_|refine ad ?_|refine al ?_|refine aj ?_)
    exact ⟨by rw [Bool.true_and],hI⟩
  intro t29 _ _ _ _ _ _ _ _ w'
  rintro ⟨rfl,hI⟩
  rcases hcase with ⟨h1,h2,hg⟩|⟨h1,rfl,rfl⟩
  ·rw [h1,h2]
   refine a7 (fun _=>?_) (fun hb=>by cases hb)
   have h3:=ic h2
   refine eW (a:=n) (b:=2) rfl rfl (by omega) ?_
   refine Run.call0E r6 tq hI (pz hg (by omega) (by omega)) fun v I' S2 w'=>?_
   rintro ⟨rfl,u,rfl,hu⟩ hE2 hI
   obtain ⟨p,m,rfl,_⟩:=id hu
   refine aT (v:=.slice p b.length m) rfl ?_
   refine aT (v:=.int .i64 (n2:Int)) rfl ?_
   refine eM hI 2 rfl bl aL rfl rfl rfl fun w' hI=>?_
   exact ⟨_,S2,rfl,hE1.trans hE2,RdT.mono hE2.1 hcs,hu,hI⟩
  ·have e:(sgn s n2 58 && sgn s (n2+1) 45)=false:=by
    rw [Bool.eq_false_iff,ne_eq,Bool.and_eq_true]; exact h1
   rw [e]
   refine a7 (fun hb=>by cases hb) (fun _=>?_)
   exact ⟨_,S1,rfl,hE1,hcs,lL S1,hI⟩
 intro t5 _ _ _ _ _ _ _ _ _ _ _ _ _ _ _ _ _ w'
 rintro ⟨kb,S2,rfl,hE2,hhd,hb,hI⟩
 have hC:RdC S2 [.int .i64 hd.kind,.int .i64 hd.n,.string hd.name,.slice a hd.kids.length q,kb] ⟨hd,b⟩:=⟨[.int .i64 hd.kind,.int .i64 hd.n,.string hd.name,.slice a hd.kids.length q],kb,rfl,hhd,hb⟩
 refine ⟨fun v w'=>v=.bool false/\Inv w [] [B2,B4,.blk b6 (.cells #[.int .i64 hd.kind,.int .i64 hd.n,.string hd.name,.slice a hd.kids.length q,kb] ac)] S2 w',?_,?_⟩
 ·refine fE bk ?_
  refine lq (by omega) ?_
  refine iD ?_
  rw [decide_eq_true (show (n2:Int)=(s.length:Int) - 1 by omega)]
  refine ae (b:=false) ?_
  refine Run.callPure dv du hI (cX s n2 46 S2) fun w' hI=>?_
  refine cN ?_
  rw [hq2]
  refine aj ?_
  refine ae (b:=false) ?_
  refine aO hI 2 aI rfl rfl ?_
  refine Run.callPure rt sX hI (qe hf hC hq3 (by omega) hq5 (by omega)) fun w' hI=>?_
  refine H4 ?_
  rw [decide_eq_true rfl]
  refine aj ?_
  exact ⟨rfl,hI⟩
 intro t54 _ _ _ _ _ _ _ _ _ _ _ _ _ _ _ _ w'
 rintro ⟨rfl,hI⟩
 refine a7 (fun hb=>by cases hb) (fun _=>?_)
 refine aO hI 2 aI rfl rfl ?_
 refine Run.call0E oA n9 hI (sg hC (by omega)) fun v I' S3 w'=>?_
 rintro ⟨rfl,ds,M,rfl,rfl,hT⟩ hE3 hI
 obtain ⟨S4,hI,hE4,hins⟩:=hI.pubExt
 have hR4:=hT.rd hins
 have hl5:=hR4.length
 have h15:=hT.one
 subst hB2
 refine aM hI 0 rfl aI (by simpa using hl5) rfl (by simpa using h15) fun w' hI=>?_
 refine bA hI 0 aI rfl (by simpa using hl5) ?_
 exact ⟨_,[],S4,rfl,hI.nil,(hE2.trans hE3).trans hE4,rfl,_,rfl,hR4⟩
def LJ (cs:List Value) (l:Bs):Prop:=cs=[.string (st l)]
theorem CX (s:Bs) (c:Nat) (hs:s.length<=100000):Tri Tryz.prog Gb [.string (st s),.int .u8 (c:Int)] [] S fun v I' S'=>I'=[]/\RdSl S' 1 LJ v (zS s c s.length 0 0 []):=by
 intro w hI
 refine yc ?_
 unfold uQ
 refine gN hI xI fun v0 w' hI=>?_
 obtain ⟨R,hR⟩:∃ R,R=zS s c s.length 0 0 []:=⟨_,rfl⟩
 rw [<- hR]
 refine ⟨fun t u v w'=>∃ (i fr:Nat) (acc:List Bs) (css:List (List Value)),t=.int .i64 (i:Int)/\u=.int .i64 (fr:Int)/\acc.length<=i/\((i<=s.length/\fr<=i/\zS s c (s.length - i) i fr acc=R) ∨ (i=s.length+1/\acc=R))/\Rows 1 LJ css acc/\Inv w [] [a5 v i6 1 css] S w',
  fun t _ _ _=>s.length+2 - (intOf t).toNat,⟨0,0,[],[],rfl,rfl,Nat.le_refl _,.inl ⟨Nat.zero_le _,Nat.le_refl _,hR.symm⟩,Rows.nil _ _,hI⟩,?_⟩
 intro t7 _ _ t6 _ _ t5 _ _ _ _ _ _ _ _ _ _ _ _ _ _ _ _ _ _ _ _ _ _ w'
 rintro ⟨i,fr,acc,css,rfl,rfl,hal,hc,hRw,hI⟩
 have hcl:=hRw.hc
 refine fE bk ?_
 refine gO ?_
 refine bF (fun hi=>?_) (fun hi=>?_)
 ·have hi':i<=s.length:=by omega
  obtain ⟨_,hfr,hcut⟩:i<=s.length/\fr<=i/\zS s c (s.length - i) i fr acc=R:=by
   rcases hc with h|h
   ·exact h
   ·omega
  obtain ⟨br,hbr⟩:∃ br,br=(decide (i=s.length) || sgn s i c):=⟨_,rfl⟩
  refine ⟨fun u v w'=>∃ (fr':Nat) (acc':List Bs) (css':List (List Value)),u=.int .i64 (fr':Int)/\acc'.length<=i+1/\fr'<=i+1/\acc'=(if br=true then acc++[cut s fr i] else acc)/\fr'=(if br=true then i+1 else fr)/\Rows 1 LJ css' acc'/\Inv w [] [a5 v i6 1 css'] S w',?_,?_⟩
  ·refine ⟨fun b w'=>b=.bool br/\Inv w [] [a5 t5 i6 1 css] S w',?_,?_⟩
   ·refine fE bk ?_
    by_cases he:i=s.length
    ·refine fZ (by omega) ?_
     repeat (first|refine ae ?_|refine ah (by decide) ?_|refine ad ?_|refine al ?_|refine aj ?_)
     exact ⟨by rw [hbr,decide_eq_true he,Bool.true_or],hI⟩
    ·refine eK (by omega) ?_
     repeat (first|refine ae ?_|refine ah (by decide) ?_|refine ad ?_|refine al ?_|refine aj ?_)
     have hlt:i<s.length:=by omega
     refine eH bk hlt ?_
     refine bO ?_
     repeat (first|refine ae ?_|refine ah (by decide) ?_|refine ad ?_|refine al ?_|refine aj ?_)
     refine ⟨?_,hI⟩
     rw [hbr,decide_eq_false he,Bool.false_or,jR hlt]
     congr 1
     rw [decide_eq_decide]
     omega
   intro t25 _ _ _ _ _ _ _ _ _ _ w'
   rintro ⟨rfl,hI⟩
   refine a7 (fun hb=>?_) (fun hb=>?_)
   ·refine x1 bk hfr hi' ?_
    refine G8 (css:=css) hI 0 xI rfl rfl rfl (by omega) (by omega) fun v' w' hI=>?_
    refine eW (a:=i) (b:=1) rfl rfl (by omega) ?_
    refine ⟨i+1,acc++[cut s fr i],_,rfl,by rw [List.length_append]; simp only [List.length_cons,List.length_nil]; omega,Nat.le_refl _,by rw [if_pos hb],by rw [if_pos hb],hRw.snoc rfl rfl,hI⟩
   ·exact ⟨fr,acc,css,rfl,by omega,by omega,by rw [if_neg (by rw [hb]; decide)],by rw [if_neg (by rw [hb]; decide)],hRw,hI⟩
  intro t6 _ _ t5 _ _ _ _ _ _ _ _ _ _ _ _ _ _ _ _ _ _ w'
  rintro ⟨fr',acc',css',rfl,hal',hfr',hacc',hfe,hRw',hI⟩
  refine eW (a:=i) (b:=1) rfl rfl (by omega) ?_
  refine ⟨⟨i+1,fr',acc',css',rfl,rfl,hal',?_,hRw',hI⟩,by simp only [intOf,Int.toNat_natCast]; omega⟩
  by_cases he:i=s.length
  ·right
   refine ⟨by rw [he],?_⟩
   rw [he,Nat.sub_self,zS,<- he] at hcut
   rw [hacc',if_pos (by rw [hbr,decide_eq_true he,Bool.true_or])]
   exact hcut
  ·left
   refine ⟨by omega,hfr',?_⟩
   rw [show s.length - i=(s.length - (i+1))+1 by omega,zS] at hcut
   rw [hbr,decide_eq_false he,Bool.false_or] at hacc' hfe
   split at hcut
   ·rename_i hsg
    rw [if_pos hsg] at hacc' hfe
    rw [hacc',hfe]
    exact hcut
   ·rename_i hsg
    rw [if_neg hsg] at hacc' hfe
    rw [hacc',hfe]
    exact hcut
 ·obtain ⟨_,rfl⟩:i=s.length+1/\acc=R:=by
   rcases hc with h|h
   ·omega
   ·exact h
  have hI2:Inv w [] ([]++[a5 t5 i6 1 css]) S w':=hI
  obtain ⟨S1,hE1,hrd,hI⟩:=Inv.lendExt hI2
  exact ⟨_,[],S1,rfl,hI,hE1,rfl,RowRd.rows hRw hrd⟩
theorem zX {f:Nat} {ls:List Bs} {i:Nat} (h:i<ls.length) (acc:List C):jF f (ls.drop i) acc=match td f ls[i] with
  | none=>none
  | some c=>jF f (ls.drop (i+1)) (acc++[c]):=by
 rw [List.drop_eq_getElem_cons h,jF]
 cases td f ls[i] <;> rfl
theorem qN {f:Nat} (hf:f<=100) {s:Bs} {p:List C} (h:HP f s=some p) (hs:s.length<=100000):Tri Tryz.prog lp [.string (st s)] [] S fun v I' S'=>∃ u css,v=.tuple #[u,.bool true]/\I'=[a5 u ac 5 css]/\Rows 5 (RdC S') css p:=by
 intro w hI
 refine oq ?_
 unfold kw
 unfold HP Jo at h
 refine gN hI uW fun v0 w' hI=>?_
 refine Run.call0E Fr E6 hI (CX s 10 hs) fun v I' S1 w'=>?_
 rintro ⟨rfl,hls⟩ hE1 hI
 have hI:Inv w [] [a5 v0 ac 5 []] S1 w':=hI
 obtain ⟨ls,hlsd⟩:∃ ls,ls=zS s 10 s.length 0 0 []:=⟨_,rfl⟩
 rw [<- hlsd] at hls h
 simp only [] at h
 split at h
 ·cases h
 rename_i hc
 simp only [not_or,ne_eq,Classical.not_not] at hc
 obtain ⟨hc1,hc2⟩:=hc
 have hl0:0<ls.length:=by
  cases ls with
  | nil=>simp at hc2
  | cons a l=>simp
 have hlast:ls[ls.length - 1]=[]:=by
  rw [List.getLast?_eq_getElem?,List.getElem?_eq_getElem (by omega)] at hc2
  exact Option.some.inj hc2
 refine ⟨fun b w'=>b=.bool false/\Inv w [] [a5 v0 ac 5 []] S1 w',?_,?_⟩
 ·refine bm hls cH ?_
  refine jH (by omega) ?_
  repeat (first|refine ae ?_|refine ah (by decide) ?_|refine ad ?_|refine al ?_|refine aj ?_)
  refine bm hls cH ?_
  refine zi (a:=ls.length) (b:=1) rfl rfl (by omega) (by omega) ?_
  have hlt:ls.length - 1<ls.length:=by omega
  obtain ⟨b,o,cap,c,E,fz,hv,hS,hR⟩:=hls.at_ hlt
  subst hv
  refine bq cH hlt ?_
  refine eE bz ((hI.cellS hS).trans (bx hR 0 _ rfl)) ?_
  refine H4 (b:=[]) ?_
  rw [decide_eq_true hlast]
  repeat (first|refine ae ?_|refine ah (by decide) ?_|refine ad ?_|refine al ?_|refine aj ?_)
  exact ⟨rfl,hI⟩
 intro t23 _ _ _ _ _ _ _ _ _ _ _ w'
 rintro ⟨rfl,hI⟩
 refine a7 (fun hb=>by cases hb) (fun _=>?_)
 refine ⟨fun a b w'=>∃ (i:Nat) (acc:List C) (S2:ay) (css:List (List Value)),a=.int .i64 (i:Int)/\i+1<=ls.length/\acc.length=i/\jF f (ls.dropLast.drop i) acc=some p/\Sle S1 S2/\Ext w.heap.size [] S S2/\Rows 5 (RdC S2) css acc/\Inv w [] [a5 b ac 5 css] S2 w',
  fun a _ _=>ls.length - (intOf a).toNat,⟨0,[],S1,[],rfl,by omega,rfl,h,Sle.refl _,hE1,Rows.nil _ _,hI⟩,?_⟩
 intro t6 _ _ t4 _ _ _ _ _ _ _ _ _ _ _ _ _ _ _ _ _ _ _ _ _ _ _ _ w'
 rintro ⟨i,acc,S2,css,rfl,hi,hal,hcl,hle2,hE2,hR,hI⟩
 have hcs:=hR.hc
 refine eW (a:=i) (b:=1) rfl rfl (by omega) ?_
 refine bm hls cH ?_
 refine cF ?_
 have hdl:ls.dropLast.length=ls.length - 1:=List.length_dropLast
 refine bF (fun hlt=>?_) (fun hge=>?_)
 ·have hi':i<ls.length:=by omega
  have hi2:i<ls.dropLast.length:=by omega
  rw [zX hi2] at hcl
  have eg:ls.dropLast[i]=ls[i]:=List.getElem_dropLast _
  rw [eg] at hcl
  obtain ⟨b,o,cap,c,E,fz,hv,hS,hRr⟩:=hls.at_ hi'
  subst hv
  split at hcl
  ·cases hcl
  rename_i cl hclf
  refine bq cH hi' ?_
  refine eE bz ((hI.cellS (hle2 _ _ hS)).trans (bx hRr 0 _ rfl)) ?_
  refine Run.call0E ud tA hI (ss hf hclf) fun v I' S3 w'=>?_
  rintro ⟨rfl,ds,rfl,hds⟩ hE3 hI
  have hl5:=hds.length
  have hR3:=hR.monoR fun _ _ h=>RdC.mono hE3.1 h
  refine aT (v:=.agg ds.toArray) rfl ?_
  refine aT (v:=.bool true) rfl ?_
  refine a9 hI bM fun b7 w' hI=>?_
  refine aM hI 1 rfl aI (by simpa using hl5) rfl (by simpa using hds.one) fun w' hI=>?_
  refine cN ?_
  refine a7 (fun hb=>by cases hb) (fun _=>?_)
  refine aO hI 1 aI rfl (by simpa using hl5) ?_
  refine eL (css:=css) hI 0 _ uW (by omega) (by omega) rfl hl5 hds.one (by omega) (by omega) fun v' w' hI=>?_
  have hI:Inv w [] [a5 v' ac 5 (css++[ds])] S3 w':=hI.pick [true,false]
  refine eW (a:=i) (b:=1) rfl rfl (by omega) ?_
  exact ⟨⟨i+1,acc++[cl],S3,_,rfl,by omega,by rw [List.length_append,hal]; rfl,hcl,hle2.trans hE3.1,hE2.trans hE3,hR3.snoc hds hl5,hI⟩,by simp only [intOf,Int.toNat_natCast]; omega⟩
 ·have hi2:ls.dropLast.length<=i:=by omega
  rw [List.drop_eq_nil_of_le hi2,jF] at hcl
  simp only [Option.some.injEq] at hcl
  subst hcl
  exact ⟨_,_,S2,rfl,hI,hE2,_,css,rfl,rfl,hR⟩
end
end Go.Proofs.YtnmnddpdikghhaaGreat

/- Whether terms are the same: both sides. -/
namespace Go.Proofs.YtnmnddpdikghhaaGreat
open Go Go.RowKit
attribute [local irreducible] Run CondV ai a4

def jk (t u:T):Bool:=decide (t.kind=u.kind) && (decide (t.n=u.n) && (decide (t.name=u.name) && decide (t.kids.length=u.kids.length)))
theorem gy (k n k' n':Int) (s s':ByteArray) (ks ks':List T):jk (.mk k n s ks) (.mk k' n' s' ks')=(decide (k=k') && (decide (n=n') && (decide (s=s') && decide (ks.length=ks'.length)))):=rfl
theorem JP {α β:Type} (a:List α) (b:List β):decide (a.length=b.length)=decide ((a.length:Int)=(b.length:Int)):=by
 rw [Bool.eq_iff_iff]
 simp only [decide_eq_true_eq]
 omega
end Go.Proofs.YtnmnddpdikghhaaGreat

/- Whether terms are the same: the program's side. -/
namespace Go.Proofs.YtnmnddpdikghhaaGreat
open Go Go.RowKit
attribute [local irreducible] Run CondV ai a4

theorem rC {xs:List T} (ih:∀ t∈xs,∀ (u:T) (S:ay) (cs ds:List Value),RdT S cs t->RdT S ds u->Pure Tryz.prog me [.agg cs.toArray,.agg ds.toArray] S (.bool (eqT t u)))
  {ys:List T} {S:ay} {v u:Value} (h:RdSl S 4 (RdT S) v xs) (h':RdSl S 4 (RdT S) u ys):Pure Tryz.prog qM [v,u,.func (.func me) #[] #[]] S (.bool (eqL xs ys)):=by
 intro w hI
 have hlen:(xs.length:Int)<=9223372036854775807:=by have:=h.le; simp only [maxLen] at this; omega
 refine md ?_
 unfold jn
 refine bm h aG ?_
 refine bm h' aG ?_
 refine iD ?_
 refine a7 (fun hne=>?_) (fun he=>?_)
 ·exact done hI (by rw [KL (by simp at hne; omega)])
 have he:xs.length=ys.length:=by simp at he; omega
 refine bm h aG ?_
 refine ⟨fun i w'=>∃ (k:Nat),k<=xs.length/\i=.int .i64 k/\eqL (xs.drop k) (ys.drop k)=eqL xs ys/\Inv w [] [] S w',fun i _=>xs.length - (intOf i).toNat,⟨0,Nat.zero_le _,rfl,rfl,hI⟩,?_⟩
 intro t5 _ _ _ _ _ _ _ _ _ _ _ _ _ _ _ _ _ _ w'
 rintro ⟨k,hk,rfl,hrel,hI⟩
 refine cF ?_
 refine bF (fun hki=>?_) (fun hki=>?_)
 ·have hk1:k<xs.length:=by omega
  have hk2:k<ys.length:=by omega
  have hstep:eqL (xs.drop k) (ys.drop k)=(eqT xs[k] ys[k] && eqL (xs.drop (k+1)) (ys.drop (k+1))):=by
   rw [List.drop_eq_getElem_cons hk1,List.drop_eq_getElem_cons hk2,eqL]
  refine dN hI h aG ag hk1 (fun _ _=>RdT.length) fun cs hcs=>?_
  have hlc:=hcs.length
  refine a9 hI bt fun b8 w' hI=>?_
  refine aM hI 0 rfl ag (by simpa using hlc) rfl (by simpa using hcs.one) fun w' hI=>?_
  refine dN hI h' aG ag hk2 (fun _ _=>RdT.length) fun ds hds=>?_
  have hld:=hds.length
  refine a9 hI bt fun b9 w' hI=>?_
  refine aM hI 1 rfl ag (by simpa using hld) rfl (by simpa using hds.one) fun w' hI=>?_
  refine aO hI 0 ag rfl (by simpa using hlc) ?_
  refine aO hI 1 ag rfl (by simpa using hld) ?_
  refine Run.callPure kQ kP hI (ih _ (List.getElem_mem hk1) _ S _ _ hcs hds) fun w' hI=>?_
  refine cN ?_
  refine a7 (fun hne=>?_) (fun he'=>?_)
  ·exact done hI (by rw [<- hrel,hstep]; simp at hne; rw [hne]; rfl)
  ·refine bR (by omega) ?_
   refine ⟨⟨k+1,hk1,rfl,?_,hI.nil⟩,by simp [intOf]; omega⟩
   rw [<- hrel,hstep]
   simp at he'
   rw [he',Bool.true_and]
 ·have:k=xs.length:=by omega
  subst this
  refine done hI ?_
  rw [<- hrel,List.drop_length,he,List.drop_length]
  rfl
theorem iN:∀ (t u:T) (S:ay) (cs ds:List Value),RdT S cs t->RdT S ds u->Pure Tryz.prog me [.agg cs.toArray,.agg ds.toArray] S (.bool (eqT t u)):=by
 refine T.ind fun k n s ks ih u S cs ds h h'=>?_
 intro w hI
 obtain ⟨kv,rfl,_,_,_,hks⟩:=RdT.iff.1 h
 obtain ⟨kv',rfl,_,_,_,hks'⟩:=RdT.iff.1 h'
 obtain ⟨k',n',s',ks'⟩:=u
 simp only [T.name,T.kids,T.kind,T.n] at hks hks' ⊢
 refine tG ?_
 unfold pA;dsimp only
 refine bN hI fun b1 w' hI=>?_
 refine bN hI fun b2 w' hI=>?_
 refine ar hI 0 rfl bv bg rfl ?_
 refine ar hI 1 rfl bv bg rfl ?_
 refine bO ?_
 by_cases e1:k=k'
 ·rw [decide_eq_true e1]
  repeat (first|refine ae ?_|refine ah (by decide) ?_|refine ad ?_|refine al ?_|refine aj ?_)
  refine ar hI 0 rfl bn bg rfl ?_
  refine ar hI 1 rfl bn bg rfl ?_
  refine bO ?_
  by_cases e2:n=n'
  ·rw [decide_eq_true e2]
   repeat (first|refine ae ?_|refine ah (by decide) ?_|refine ad ?_|refine al ?_|refine aj ?_)
   refine ar hI 0 rfl bH bz rfl ?_
   refine ar hI 1 rfl bH bz rfl ?_
   refine cK ?_
   by_cases e3:s=s'
   ·rw [decide_eq_true e3]
    repeat (first|refine ae ?_|refine ah (by decide) ?_|refine ad ?_|refine al ?_|refine aj ?_)
    refine ar hI 0 rfl aP aL rfl ?_
    refine ar hI 1 rfl aP aL rfl ?_
    refine Run.callPure jp jl hI (rC ih hks hks') fun w' hI=>?_
    repeat (first|refine ae ?_|refine ah (by decide) ?_|refine ad ?_|refine al ?_|refine aj ?_)
    exact done hI (by rw [eqT,decide_eq_true e1,decide_eq_true e2,decide_eq_true e3]; rfl)
   ·rw [decide_eq_false e3]
    repeat (first|refine ae ?_|refine ah (by decide) ?_|refine ad ?_|refine al ?_|refine aj ?_)
    exact done hI (by rw [eqT,decide_eq_true e1,decide_eq_true e2,decide_eq_false e3]; rfl)
  ·rw [decide_eq_false e2]
   repeat (first|refine ae ?_|refine ah (by decide) ?_|refine ad ?_|refine al ?_|refine aj ?_)
   exact done hI (by rw [eqT,decide_eq_true e1,decide_eq_false e2]; rfl)
 ·rw [decide_eq_false e1]
  repeat (first|refine ae ?_|refine ah (by decide) ?_|refine ad ?_|refine al ?_|refine aj ?_)
  exact done hI (by rw [eqT,decide_eq_false e1]; rfl)

end Go.Proofs.YtnmnddpdikghhaaGreat

/- Maps from numbers to terms. -/
namespace Go.Proofs.YtnmnddpdikghhaaGreat
open Go Go.RowKit

theorem nM {n:Int}:∀ (l:List MapEntry) (i:Nat),(∀ e∈l,∃ m,e.key=.int .i64 m)->
  (∃ j,∃ e∈l,e.key=.int .i64 n/\Instr.findNow (.int .i64) (.int .i64 n) l i=some (some (j,e.val))) ∨ ((∀ e∈l,e.key≠.int .i64 n)/\Instr.findNow (.int .i64) (.int .i64 n) l i=some none)
 | [],i,_=>.inr ⟨by simp,rfl⟩
 | e::l,i,h=>by
  obtain ⟨m,hm⟩:=h e (List.mem_cons_self ..)
  have hs:Instr.sameNow (.int .i64) (.int .i64 n) e.key=some (n == m):=by rw [hm]; rfl
  by_cases hnm:n=m
  ·refine .inl ⟨i,e,List.mem_cons_self ..,by rw [hm,hnm],?_⟩
   have:(n == m)=true:=by simpa using hnm
   rw [Instr.findNow,hs,this]
  ·have h2:(n == m)=false:=by simpa using hnm
   rcases nM l (i+1) (fun e he=>h e (List.mem_cons_of_mem _ he)) with ⟨j,e',he',hk,hf⟩|⟨hk,hf⟩
   ·exact .inl ⟨j,e',List.mem_cons_of_mem _ he',hk,by rw [Instr.findNow,hs,h2]; exact hf⟩
   ·refine .inr ⟨fun x hx=>?_,by rw [Instr.findNow,hs,h2]; exact hf⟩
    rcases List.mem_cons.1 hx with rfl|hx
    ·rw [hm]
     intro e'
     simp only [Value.int.injEq,true_and] at e'
     exact hnm e'.symm
    ·exact hk x hx
section
variable {P:Program} {w w0:World} {X:List Nat} {L:List Item} {S:ay} {K:Value->World->Prop}
attribute [local irreducible] Run CondV ai a4
theorem ib {kt:TypeId} {d:TypeDesc} {k:Value} {l:List MapEntry} {a:Option (Nat × Value)} (hd:P.underlying kt=some d) (h:Instr.findNow d k l 0=some a):(Instr.findKey kt k l).run P w=.ok a w:=by
 simp [Instr.findKey,run_underlying hd,Result.andThen,h]
theorem ub (h:Inv w0 X L S w) {T ty:TypeId} (hk:∀ b w',Inv w0 X (L++[.blk b (.map #[] 0)]) S w'->K (.map (some b)) w'):Run P (sOp (.makeMap T none) ty) w K:=by
 refine Run.of (v:=.map (some w.heap.size)) (w':={ w with heap:=w.heap.push (.map #[] 0) }) ?_ (hk _ _ (h.alloc _))
 simp [sOp,execOp,Instr.makeMap,newObj,Sem.run]
theorem Ex (h:Inv w0 X L S w) {T kt et ty:TypeId} {b clock:Nat} {es:Array MapEntry} {n:Int} {z v:Value} {ok:Bool} (i:Nat) (hT:P.underlying T=some (.map kt et)) (hkt:P.underlying kt=some (.int .i64))
  (hz:iJ P et=some z) (hi:L[i]?=some (.blk b (.map es clock)))
  (hf:(∃ j,Instr.findNow (.int .i64) (.int .i64 n) es.toList 0=some (some (j,v))/\ok=true) ∨ (Instr.findNow (.int .i64) (.int .i64 n) es.toList 0=some none/\v=z/\ok=false))
  (hk:K (.tuple #[v,.bool ok]) w):Run P (sOp (.lookup T (.const (.map (some b))) (.const (.int .i64 n)) true) ty) w K:=by
 have hb:w.heap[b]?=some (.map es clock):=h.its _ (List.mem_of_getElem? hi)
 have hck:∀ e,(Instr.checkKey e 10000 kt (.int .i64 n)).run P w=.ok () w:=fun e=>by
  rw [show (10000:Nat)=9999+1 from rfl,Instr.checkKey]
  simp [run_underlying hkt]
 obtain ⟨inf,hi1,hi2⟩:∃ inf,P.info? et=some inf/\inf.zero=some z:=by
  unfold iJ at hz
  cases hinf:P.info? et with
  | none=>rw [hinf] at hz; simp at hz
  | some inf=>rw [hinf] at hz; exact ⟨inf,rfl,by simpa using hz⟩
 have hzv:(zeroValue et).run P w=.ok z w:=by simp [zeroValue,typeInfo,hi1,hi2]
 refine Run.of ?_ hk
 have hg:(getObj b).run P w=.ok (.map es clock) w:=by simp [getObj,Sem.run,hb]
 rcases hf with ⟨j,hf,rfl⟩|⟨hf,rfl,rfl⟩
 ·have hfk:=ib (P:=P) (w:=w) hkt hf
  simp [sOp,execOp,ev0,evE,Instr.lookup,run_underlying hT,hg,hck,hfk]
 ·have hfk:=ib (P:=P) (w:=w) hkt hf
  simp [sOp,execOp,ev0,evE,Instr.lookup,run_underlying hT,hg,hck,hfk,hzv]
theorem zf (h:Inv w0 X L S w) {T kt et ty:TypeId} {b clock:Nat} {es:Array MapEntry} {n:Int} {v:Value} (i:Nat) (hT:P.underlying T=some (.map kt et)) (hkt:P.underlying kt=some (.int .i64))
  (hi:L[i]?=some (.blk b (.map es clock))) (hf:Instr.findNow (.int .i64) (.int .i64 n) es.toList 0=some none)
  (hk:∀ w',Inv w0 X (L.set i (.blk b (.map (es.push { key:=.int .i64 n,val:=v,born:=clock }) (clock+1)))) S w'->K undef w') :
  Run P (sOp (.mapUpdate T (.const (.map (some b))) (.const (.int .i64 n)) (.const v)) ty) w K:=by
 have hb:w.heap[b]?=some (.map es clock):=h.its _ (List.mem_of_getElem? hi)
 have hck:∀ e,(Instr.checkKey e 10000 kt (.int .i64 n)).run P w=.ok () w:=fun e=>by
  rw [show (10000:Nat)=9999+1 from rfl,Instr.checkKey]
  simp [run_underlying hkt]
 have hg:(getObj b).run P w=.ok (.map es clock) w:=by simp [getObj,Sem.run,hb]
 have hfk:=ib (P:=P) (w:=w) hkt hf
 refine Run.ofSkip (w':={ w with heap:=w.heap.setIfInBounds b (.map (es.push { key:=.int .i64 n,val:=v,born:=clock }) (clock+1)) }) ?_ (hk _ (h.setBlk hi _ rfl))
 have hst:(setObj b (.map (es.push { key:=.int .i64 n,val:=v,born:=clock }) (clock+1))).run P w=.ok () { w with heap:=w.heap.setIfInBounds b (.map (es.push { key:=.int .i64 n,val:=v,born:=clock }) (clock+1)) }:=by simp [setObj,Sem.run,hb]
 simp [sOp,execOp,ev0,evE,Instr.mapUpdate,run_underlying hT,hg,hck,hfk,hst]
end

end Go.Proofs.YtnmnddpdikghhaaGreat

/- Matching a general term to a special one: the plain form, and spec.l3Match. -/
namespace Go.Proofs.YtnmnddpdikghhaaGreat
open Go Go.RowKit

abbrev bu:=List (Option T)
mutual
def dH:T->T->bu->Bool × bu
 | .mk k n s ks,u,st=>if k=1 then (match st[n.toNat]? with
   | some (some t)=>(eqT t u,st)
   | _=>(true,st.set n.toNat (some u)))
  else if jk (.mk k n s ks) u=true then eJ ks u.kids st else (false,st)
def eJ:List T->List T->bu->Bool × bu
 | [],_,st=>(true,st)
 | _::_,[],st=>(true,st)
 | t::ts,u::us,st=>if (dH t u st).1=true then eJ ts us (dH t u st).2 else (false,(dH t u st).2)
end
theorem EV (ts us:List T) (st:bu) (j:Nat) (h:j<ts.length) (h':j<us.length) :
  eJ (ts.drop j) (us.drop j) st=if (dH ts[j] us[j] st).1=true then eJ (ts.drop (j+1)) (us.drop (j+1)) (dH ts[j] us[j] st).2 else (false,(dH ts[j] us[j] st).2):=by
 rw [List.drop_eq_getElem_cons h,List.drop_eq_getElem_cons h',eJ]
/- variables within the table; kinds that are kinds -/
mutual
def okV:T->Prop
 | .mk k n _ ks=>(k=1->0<=n/\n<=25)/\li ks
def li:List T->Prop
 | []=>True
 | t::ts=>okV t/\li ts
end
theorem xF:∀ {ts:List T},li ts->∀ t∈ts,okV t
 | _::_,h,t,ht=>by
  rcases List.mem_cons.1 ht with rfl|ht
  ·exact h.1
  ·exact xF h.2 t ht
mutual
def okK:T->Prop
 | .mk k _ _ ks=>k≠0/\xc ks
def xc:List T->Prop
 | []=>True
 | t::ts=>okK t/\xc ts
end
theorem yA:∀ {ts:List T},xc ts->∀ t∈ts,okK t
 | _::_,h,t,ht=>by
  rcases List.mem_cons.1 ht with rfl|ht
  ·exact h.1
  ·exact yA h.2 t ht
theorem Kz {t:T} (h:fD t=true):(t.kind=1->0<=t.n/\t.n<=25)/\t.kind≠0:=by
 unfold fD at h
 refine ⟨fun hk=>?_,fun hk=>?_⟩
 ·rw [if_pos hk] at h
  simp only [Bool.and_eq_true,decide_eq_true_eq] at h
  exact ⟨h.1,h.2.1⟩
 ·rw [if_neg (by omega),if_neg (by omega),if_neg (by omega)] at h
  cases h
mutual
theorem Dn:∀ (t:T) (d:Int),eT t d=true->okV t/\okK t
 | .mk k n s ks,d,h=>by
  rw [eT] at h
  split at h
  ·cases h
  ·simp only [Bool.and_eq_true] at h
   obtain ⟨h1,h2⟩:=h
   obtain ⟨h3,h4⟩:=Bb ks (d - 1) h2
   rw [okV,okK]
   obtain ⟨h5,h6⟩:=Kz h1
   exact ⟨⟨h5,h3⟩,⟨h6,h4⟩⟩
theorem Bb:∀ (ts:List T) (d:Int),eB ts d=true->li ts/\xc ts
 | [],d,h=>by simp [li,xc]
 | t::ts,d,h=>by
  rw [eB,Bool.and_eq_true] at h
  obtain ⟨h1,h2⟩:=Dn t d h.1
  obtain ⟨h3,h4⟩:=Bb ts d h.2
  rw [li,xc]
  exact ⟨⟨h1,h3⟩,⟨h2,h4⟩⟩
end
theorem s8 {t:T} (h:d6 t=true):okV t/\okK t:=by
 rw [d6,Bool.and_eq_true] at h
 exact Dn t 30 h.1
def CU (st:bu):Prop:=st.length=26/\∀ t,some t∈st->okK t
theorem Kc {st:bu} {n:Nat} {u:T} (h:CU st) (hu:okK u):CU (st.set n (some u)):=by
 refine ⟨by rw [List.length_set]; exact h.1,fun t ht=>?_⟩
 rcases List.mem_or_eq_of_mem_set ht with ht|ht
 ·exact h.2 t ht
 ·simp only [Option.some.injEq] at ht
  rw [ht]; exact hu
mutual
theorem yQ:∀ (t u:T) (st:bu),CU st->okK u->CU (dH t u st).2
 | .mk k n s ks,u,st,h,hu=>by
  rw [dH]
  split
  ·split
   ·exact h
   ·exact Kc h hu
  ·split
   ·obtain ⟨k',n',s',ks'⟩:=u
    rw [okK] at hu
    exact BJ ks ks' st h hu.2
   ·exact h
theorem BJ:∀ (ts us:List T) (st:bu),CU st->xc us->CU (eJ ts us st).2
 | [],_,st,h,_=>by rw [eJ]; exact h
 | _::_,[],st,h,_=>by rw [eJ]; exact h
 | t::ts,u::us,st,h,hu=>by
  rw [eJ]
  rw [xc] at hu
  split
  ·exact BJ ts us _ (yQ t u st h hu.1) hu.2
  ·exact yQ t u st h hu.1
end
def tw:List Value:=[.int .i64 0,.int .i64 0,.string ⟨#[]⟩,.slice none 0 0]
/- the table of spec.l3Match -/
def KnownC (S:ay) (c:Array Value) (st:bu):Prop:=104<=c.size/\∀ i (h:i<st.length),(st[i]=none->bJ c (i * 4) 4=tw)/\(∀ t,st[i]=some t->RdT S (bJ c (i * 4) 4) t)
theorem KnownC.set {S:ay} {c:Array Value} {st:bu} (h:KnownC S c st) {n:Nat} (hn:n<26) {cs:List Value} {u:T} (hu:RdT S cs u):KnownC S (cD c (n * 4) cs) (st.set n (some u)):=by
 have hlc:=hu.length
 have h1:=h.1
 have hs:104<=(cD c (n * 4) cs).size:=by rw [kL _ _ _ (by omega)]; exact h1
 refine ⟨hs,fun i hi=>?_⟩
 rw [List.length_set] at hi
 by_cases e:n=i
 ·subst e
  rw [List.getElem_set_self]
  refine ⟨fun h=>(by cases h),fun t ht=>?_⟩
  simp only [Option.some.injEq] at ht
  subst ht
  have:=gu (c:=c) (o:=n * 4) (vs:=cs) (by omega)
  rw [hlc] at this
  rw [this]
  exact hu
 ·rw [List.getElem_set_ne e,gg (by omega) (by omega)]
  exact h.2 i hi
section
attribute [local irreducible] Run CondV ai a4
abbrev kvn (kb kp:Nat):Value:=.slice (some ⟨kb,0,none⟩) 26 kp
abbrev kv0 (kb:Nat):Value:=kvn kb 26
end

end Go.Proofs.YtnmnddpdikghhaaGreat

/- Variables numbered anew: the plain form of both sides. -/
namespace Go.Proofs.YtnmnddpdikghhaaGreat
open Go Go.RowKit

def iF:List Int->Int->Int->Nat->Int
 | [],_,cur,_=>cur
 | x::xs,n,cur,k=>iF xs n (if x=n then (k:Int) else cur) (k+1)
def jg (vs:List Int) (n:Int):Int:=(c9 (σ:=Unit) (fun _ x=>(decide (n=x),())) () vs 0).1
mutual
def c5 (vs:List Int):T->T
 | .mk k n s ks=>.mk k (if k=1 then iF vs n n 0 else n) s (dM vs ks)
def dM (vs:List Int):List T->List T
 | []=>[]
 | t::ts=>c5 vs t::dM vs ts
end
mutual
def jN (vs:List Int):T->T
 | .mk k n s ks=>if k=1 then .mk 1 (jg vs n) ⟨#[]⟩ [] else .mk k n s (gM vs ks)
def gM (vs:List Int):List T->List T
 | []=>[]
 | t::ts=>jN vs t::gM vs ts
end
theorem Bv:∀ (xs:List Int) (n cur:Int) (k:Nat),n ∉ xs->iF xs n cur k=cur
 | [],n,cur,k,_=>rfl
 | x::xs,n,cur,k,h=>by
  rw [iF,if_neg (fun e=>h (by rw [e]; exact List.mem_cons_self ..)),Bv xs n cur (k+1) fun e=>h (List.mem_cons_of_mem _ e)]
theorem lf:∀ (xs:List Int) (n cur:Int) (k:Nat),n∈xs->xs.Nodup->iF xs n cur k=(c9 (σ:=Unit) (fun _ x=>(decide (n=x),())) () xs k).1
 | x::xs,n,cur,k,h,hd=>by
  rw [List.nodup_cons] at hd
  rw [iF,c9]
  by_cases e:x=n
  ·subst e
   rw [if_pos rfl,Bv _ _ _ _ hd.1]
   simp
  ·rw [if_neg e]
   have h':n∈xs:=by
    rcases List.mem_cons.1 h with h|h
    ·exact absurd h.symm e
    ·exact h
   have:decide (n=x)=false:=decide_eq_false fun q=>e q.symm
   simp only [this,Bool.false_eq_true,if_false]
   exact lf xs n cur (k+1) h' hd.2
theorem BG:∀ (xs:List Int) (n cur:Int) (k:Nat),iF xs n cur k=cur ∨ (0<=iF xs n cur k/\iF xs n cur k<k+xs.length)
 | [],n,cur,k=>.inl rfl
 | x::xs,n,cur,k=>by
  rw [iF]
  rcases BG xs n (if x=n then (k:Int) else cur) (k+1) with h|h
  ·split at h
   ·right; rw [if_pos (by assumption),h]; simp; omega
   ·left; rw [if_neg (by assumption)]; exact h
  ·right
   simp only [List.length_cons]
   omega
theorem JZ (vs:List Int) (n:Int):-1<=jg vs n/\jg vs n<vs.length+1:=by
 have:∀ (xs:List Int) (k:Nat),-1<=(c9 (σ:=Unit) (fun _ x=>(decide (n=x),())) () xs k).1/\(c9 (σ:=Unit) (fun _ x=>(decide (n=x),())) () xs k).1<k+xs.length+1:=by
  intro xs
  induction xs with
  | nil=>intro k; simp [c9]; omega
  | cons x xs ih=>
   intro k
   rw [c9]
   have:=ih (k+1)
   split
   ·simp; omega
   ·simp only [List.length_cons]; omega
 have h:=this vs 0
 rw [jg]
 omega
mutual
def inT (vs:List Int):T->Prop
 | .mk k n _ ks=>(k=1->n∈vs)/\inL vs ks
def inL (vs:List Int):List T->Prop
 | []=>True
 | t::ts=>inT vs t/\inL vs ts
end
theorem oi (l:List Int) (n:Int):wh l n=true↔n∈l:=by
 simp [wh]
theorem DI (l:List Int) (n:Int):n∈iA l n/\∀ m∈l,m∈iA l n:=by
 unfold iA
 split
 ·rename_i h; exact ⟨(oi l n).1 h,fun m h=>h⟩
 ·exact ⟨by simp,fun m h=>by simp [h]⟩
theorem xx {l:List Int} (n:Int) (h:l.Nodup):(iA l n).Nodup:=by
 unfold iA
 split
 ·exact h
 ·rename_i hn
  rw [List.nodup_append]
  refine ⟨h,by simp,fun a ha b hb e=>hn ((oi l n).2 ?_)⟩
  simp at hb
  rw [<- hb,<- e]
  exact ha
mutual
theorem Jd:∀ (t:T) (l:List Int),∀ m∈l,m∈ge t l
 | .mk k n s ks,l,m,h=>by
  rw [ge]
  refine oM ks _ m ?_
  split
  ·exact (DI l n).2 m h
  ·exact h
theorem oM:∀ (ts:List T) (l:List Int),∀ m∈l,m∈dE ts l
 | [],l,m,h=>h
 | t::ts,l,m,h=>by
  rw [dE]
  exact oM ts _ m (Jd t l m h)
end
mutual
theorem EO:∀ (t:T) (l:List Int),l.Nodup->(ge t l).Nodup
 | .mk k n s ks,l,h=>by
  rw [ge]
  refine g5 ks _ ?_
  split
  ·exact xx n h
  ·exact h
theorem g5:∀ (ts:List T) (l:List Int),l.Nodup->(dE ts l).Nodup
 | [],l,h=>h
 | t::ts,l,h=>by
  rw [dE]
  exact g5 ts _ (EO t l h)
end
mutual
theorem Ev {vs ws:List Int} (h:∀ m∈vs,m∈ws):∀ t:T,inT vs t->inT ws t
 | .mk k n s ks,hi=>by
  rw [inT] at hi ⊢
  exact ⟨fun e=>h _ (hi.1 e),Dp h ks hi.2⟩
theorem Dp {vs ws:List Int} (h:∀ m∈vs,m∈ws):∀ ts:List T,inL vs ts->inL ws ts
 | [],_=>by simp [inL]
 | t::ts,hi=>by
  rw [inL] at hi ⊢
  exact ⟨Ev h t hi.1,Dp h ts hi.2⟩
end
mutual
theorem Ku:∀ (t:T) (l:List Int),inT (ge t l) t
 | .mk k n s ks,l=>by
  rw [ge,inT]
  refine ⟨fun e=>oM ks _ n ?_,lz ks _⟩
  rw [if_pos e]
  exact (DI l n).1
theorem lz:∀ (ts:List T) (l:List Int),inL (dE ts l) ts
 | [],l=>by simp [inL]
 | t::ts,l=>by
  rw [dE,inL]
  exact ⟨Ev (oM ts _) t (Ku t l),lz ts _⟩
end
theorem Fl {t:T} (h:fD t=true) (hk:t.kind=1):t.name=emptyB/\t.kids.length=0:=by
 unfold fD at h
 rw [if_pos hk] at h
 simp only [Bool.and_eq_true,decide_eq_true_eq] at h
 exact ⟨h.2.2.1,h.2.2.2⟩
mutual
theorem HM (vs:List Int) (hd:vs.Nodup):∀ (t:T) (d:Int),eT t d=true->inT vs t->c5 vs t=jN vs t
 | .mk k n s ks,d,h,hi=>by
  rw [eT] at h
  rw [inT] at hi
  split at h
  ·cases h
  ·rw [Bool.and_eq_true] at h
   have h2:=CS vs hd ks (d - 1) h.2 hi.2
   rw [c5,jN]
   by_cases e:k=1
   ·obtain ⟨e1,e2⟩:=Fl h.1 e
    have e1':s=⟨#[]⟩:=e1
    have e2':ks=[]:=List.eq_nil_of_length_eq_zero e2
    subst e1' e2' e
    rw [if_pos rfl,if_pos rfl,lf vs n n 0 (hi.1 rfl) hd]
    rfl
   ·rw [if_neg e,if_neg e,h2]
theorem CS (vs:List Int) (hd:vs.Nodup):∀ (ts:List T) (d:Int),eB ts d=true->inL vs ts->dM vs ts=gM vs ts
 | [],d,_,_=>rfl
 | t::ts,d,h,hi=>by
  rw [eB,Bool.and_eq_true] at h
  rw [inL] at hi
  rw [dM,gM,HM vs hd t d h.1 hi.1,CS vs hd ts d h.2 hi.2]
end
theorem jD (vs:List Int):∀ ts:List T,(dM vs ts).length=ts.length
 | []=>rfl
 | t::ts=>by rw [dM]; simp [jD vs ts]
theorem uK (vs:List Int):∀ ts:List T,(gM vs ts).length=ts.length
 | []=>rfl
 | t::ts=>by rw [gM]; simp [uK vs ts]
theorem xP (vs:List Int) (ts:List T) (j:Nat) (h:j<ts.length):dM vs (ts.take (j+1))=dM vs (ts.take j)++[c5 vs ts[j]]:=by
 have:∀ (xs ys:List T),dM vs (xs++ys)=dM vs xs++dM vs ys:=by
  intro xs ys
  induction xs with
  | nil=>rfl
  | cons x xs ih=>simp [dM,ih]
 rw [List.take_succ_eq_append_getElem h,this]; rfl
theorem yM (vs:List Int) (ts:List T) (j:Nat) (h:j<ts.length):gM vs (ts.take (j+1))=gM vs (ts.take j)++[jN vs ts[j]]:=by
 have:∀ (xs ys:List T),gM vs (xs++ys)=gM vs xs++gM vs ys:=by
  intro xs ys
  induction xs with
  | nil=>rfl
  | cons x xs ih=>simp [gM,ih]
 rw [List.take_succ_eq_append_getElem h,this]; rfl
def ir (vs:List Int) (c:C):C:=⟨c5 vs c.head,dM vs c.body⟩
def bD (c:C):List Int:=cW (c.head::c.body) []
theorem HA {c:C} (h:bG c=true):dE (c.head::c.body) []=bD c/\jN (bD c) c.head=c5 (bD c) c.head/\gM (bD c) c.body=dM (bD c) c.body:=by
 have hv:dE (c.head::c.body) []=bD c:=by
  rw [bD,dE,cW,<- (u9 h []).1,(u9 h (ew c.head [])).2]
 have hd:(bD c).Nodup:=by rw [<- hv]; exact g5 _ _ List.nodup_nil
 have hi:inL (bD c) (c.head::c.body):=by rw [<- hv]; exact lz _ _
 rw [inL] at hi
 rw [bG] at h
 simp only [Bool.and_eq_true,List.all_eq_true] at h
 obtain ⟨_,h2,h3,_⟩:=h
 rw [d6,Bool.and_eq_true] at h3
 have hb:∀ ts:List T,(∀ t∈ts,fo t=true)->eB ts 30=true:=by
  intro ts
  induction ts with
  | nil=>intro _; rfl
  | cons t ts ih=>
   intro ht
   rw [eB,Bool.and_eq_true]
   have h1:=ht t (List.mem_cons_self ..)
   rw [fo,Bool.and_eq_true,d6,Bool.and_eq_true] at h1
   exact ⟨h1.1.1,ih fun u hu=>ht u (List.mem_cons_of_mem _ hu)⟩
 exact ⟨hv,(HM _ hd _ _ h3.1 hi.1).symm,(CS _ hd _ _ (hb _ h2) hi.2).symm⟩

end Go.Proofs.YtnmnddpdikghhaaGreat

/- Unification: the plain form. Lists of bindings, what a variable reaches, unifiers, resolved terms. -/
namespace Go.Proofs.YtnmnddpdikghhaaGreat
open Go Go.RowKit
/- terms whose variables are bare and below a number -/
mutual
def okU (N:Nat):T->Prop
 | .mk k n s ks=>k≠0/\(k=1->0<=n/\n<N/\s=emptyB/\ks=[])/\dA N ks/\s.size<=6
def dA (N:Nat):List T->Prop
 | []=>True
 | t::ts=>okU N t/\dA N ts
end
mutual
def vT:T->List Nat
 | .mk k n _ ks=>if k=1 then [n.toNat] else vTL ks
def vTL:List T->List Nat
 | []=>[]
 | t::ts=>vT t++vTL ts
end
theorem jL {N:Nat}:∀ {ts:List T},dA N ts->∀ t∈ts,okU N t
 | t::ts,h,x,hx=>by
  rw [dA] at h
  rcases List.mem_cons.1 hx with rfl|hx
  ·exact h.1
  ·exact jL h.2 x hx
theorem CI {N:Nat}:∀ {ts:List T},(∀ t∈ts,okU N t)->dA N ts
 | [],_=>by rw [dA]; trivial
 | t::ts,h=>by rw [dA]; exact ⟨h t (List.mem_cons_self ..),CI fun u hu=>h u (List.mem_cons_of_mem _ hu)⟩
theorem mf:∀ {ts:List T} {m:Nat},m∈vTL ts↔∃ t∈ts,m∈vT t
 | [],m=>by simp [vTL]
 | t::ts,m=>by rw [vTL,List.mem_append,mf]; simp
theorem okU.kids {N:Nat} {t:T} (h:okU N t):dA N t.kids:=by cases t; rw [okU] at h; exact h.2.2.1
theorem okU.var {N:Nat} {t:T} (h:okU N t) (hk:t.kind=1):0<=t.n/\t.n<N/\t.name=emptyB/\t.kids=[]:=by cases t; rw [okU] at h; exact h.2.1 hk
theorem okU.kind {N:Nat} {t:T} (h:okU N t):t.kind≠0:=by cases t; rw [okU] at h; exact h.1
theorem iK {t:T} (h:t.kind=1):vT t=[t.n.toNat]:=by cases t; rw [vT]; exact if_pos h
theorem xr {t:T} (h:t.kind≠1):vT t=vTL t.kids:=by cases t; rw [vT]; exact if_neg h
mutual
theorem Ki {N:Nat}:∀ (t:T),okU N t->∀ m∈vT t,m<N
 | .mk k n s ks,h,m,hm=>by
  rw [okU] at h
  rw [vT] at hm
  split at hm
  ·rename_i hk
   have:=h.2.1 hk
   simp at hm
   omega
  ·exact Jm ks h.2.2.1 m hm
theorem Jm {N:Nat}:∀ (ts:List T),dA N ts->∀ m∈vTL ts,m<N
 | [],_,m,hm=>by simp [vTL] at hm
 | t::ts,h,m,hm=>by
  rw [dA] at h
  rw [vTL,List.mem_append] at hm
  rcases hm with hm|hm
  ·exact Ki t h.1 m hm
  ·exact Jm ts h.2 m hm
end
/- what a term is bound to -/
def gL (st:bu) (t:T):Option T:=if t.kind=1 then (st[t.n.toNat]?).join else none
theorem dK {st:bu} {t u:T}:gL st t=some u↔t.kind=1/\st[t.n.toNat]?=some (some u):=by
 unfold gL
 split
 ·rename_i h
  simp only [Option.join_eq_some_iff]
  exact ⟨fun e=>⟨h,e⟩,fun e=>e.2⟩
 ·rename_i h
  simp [h]
theorem uz {st:bu} {t:T}:gL st t=none↔(t.kind=1->st[t.n.toNat]?=none ∨ st[t.n.toNat]?=some none):=by
 unfold gL
 split
 ·rename_i h
  rw [Option.join_eq_none_iff]
  constructor
  ·intro e _
   rcases e with e|e
   ·exact .inl e
   ·exact .inr e
  ·intro e
   rcases e h with e|e
   ·exact .inl e
   ·exact .inr e
 ·rename_i h
  simp [h]
inductive dy (st:bu):T->T->Prop
 | stop {t:T}:gL st t=none->dy st t t
 | step {t u v:T}:gL st t=some u->dy st u v->dy st t v
inductive Rch (st:bu):Nat->Nat->Prop
 | refl (m:Nat):Rch st m m
 | step {m k n:Nat} {u:T}:st[m]?=some (some u)->k∈vT u->Rch st k n->Rch st m n
theorem Rch.trans {st:bu} {a b c:Nat} (h:Rch st a b) (h':Rch st b c):Rch st a c:=by
 induction h with
 | refl=>exact h'
 | step h1 h2 _ ih=>exact .step h1 h2 (ih h')
def fi (st:bu) (n:Nat) (t:T):Prop:=∃ m∈vT t,Rch st m n
structure Good (N:Nat) (st:bu):Prop where
 len:st.length=N
 ok:∀ t,some t∈st->okU N t
 w:∀ t,some t∈st->wT t<=1048576
 rk:∃ r:Nat->Nat,∀ (n:Nat) (u:T),st[n]?=some (some u)->∀ m∈vT u,r m<r n
theorem Good.look_ok {N:Nat} {st:bu} (h:Good N st) {t u:T} (hl:gL st t=some u):okU N u/\wT u<=1048576:=by
 have:=List.mem_of_getElem? (dK.1 hl).2
 exact ⟨h.ok u this,h.w u this⟩
theorem eG {N:Nat} {st:bu} {t v:T} (h:Good N st) (hw:dy st t v) (ht:okU N t/\wT t<=1048576):okU N v/\wT v<=1048576:=by
 induction hw with
 | stop=>exact ht
 | step hl _ ih=>exact ih (h.look_ok hl)
theorem iO {st:bu} {t v:T} (hw:dy st t v):gL st v=none:=by
 induction hw with
 | stop h=>exact h
 | step _ _ ih=>exact ih
theorem HR {N:Nat} {st:bu} (h:Good N st) (t:T):∃ v,dy st t v:=by
 obtain ⟨r,hr⟩:=h.rk
 have:∀ (k:Nat) (t:T),(∀ u,gL st t=some u->r t.n.toNat<k)->∃ v,dy st t v:=by
  intro k
  induction k with
  | zero=>
   intro t ht
   cases hl:gL st t with
   | none=>exact ⟨t,.stop hl⟩
   | some u=>have:=ht u hl; omega
  | succ k ih=>
   intro t ht
   cases hl:gL st t with
   | none=>exact ⟨t,.stop hl⟩
   | some u=>
    have h1:=ht u hl
    obtain ⟨v,hv⟩:=ih u fun u' hu'=>by
     obtain ⟨hk,_⟩:=dK.1 hu'
     have:=hr _ _ (dK.1 hl).2 u.n.toNat (by rw [iK hk]; simp)
     omega
    exact ⟨v,.step hl hv⟩
 exact this (r t.n.toNat+1) t fun _ _=>Nat.lt_succ_self _
/- what a walk leaves open -/
theorem JQ {st:bu} {t v:T} (hw:dy st t v) {n:Nat} (hn:∀ u,st[n]?≠some (some u)):fi st n t↔fi st n v:=by
 induction hw with
 | stop=>exact Iff.rfl
 | step hl _ ih=>
  rename_i t u v
  rw [<- ih]
  obtain ⟨hk,hs⟩:=dK.1 hl
  constructor
  ·rintro ⟨m,hm,hr⟩
   rw [iK hk,List.mem_singleton] at hm
   subst hm
   cases hr with
   | refl=>exact absurd hs (hn _)
   | step h1 h2 h3=>
    rw [hs,Option.some.injEq,Option.some.injEq] at h1
    subst h1
    exact ⟨_,h2,h3⟩
  ·rintro ⟨m,hm,hr⟩
   exact ⟨_,by rw [iK hk]; exact List.mem_singleton.2 rfl,.step hs hm hr⟩
/- bindings that are left -/
def unb:bu->Nat
 | []=>0
 | none::st=>unb st+1
 | some _::st=>unb st
theorem sB:∀ (st:bu) (n:Nat) (t:T),st[n]?=some none->unb (st.set n (some t))+1=unb st
 | [],n,t,h=>by simp at h
 | x::st,0,t,h=>by
  simp only [List.getElem?_cons_zero,Option.some.injEq] at h
  subst h
  rfl
 | x::st,n+1,t,h=>by
  have h':st[n]?=some none:=by simpa using h
  have:=sB st n t h'
  cases x <;> simp only [List.set_cons_succ,unb] <;> omega
open Classical in
theorem Good.set {N:Nat} {st:bu} (h:Good N st) {n:Nat} {t:T} (hn:st[n]?=some none) (ht:okU N t) (hw:wT t<=1048576) (ho:¬ fi st n t):Good N (st.set n (some t)):=by
 have hnl:n<st.length:=(List.getElem?_eq_some_iff.1 hn).1
 refine ⟨by rw [List.length_set]; exact h.len,fun u hu=>?_,fun u hu=>?_,?_⟩
 ·rcases List.mem_or_eq_of_mem_set hu with hu|hu
  ·exact h.ok u hu
  ·rw [Option.some.injEq] at hu
   rw [hu]; exact ht
 ·rcases List.mem_or_eq_of_mem_set hu with hu|hu
  ·exact h.w u hu
  ·rw [Option.some.injEq] at hu
   rw [hu]; exact hw
 ·obtain ⟨r,hr⟩:=h.rk
  have hM:∀ l:List Nat,∃ M,∀ m∈l,r m<=M:=by
   intro l
   induction l with
   | nil=>exact ⟨0,by simp⟩
   | cons x l ih=>
    obtain ⟨M,hM⟩:=ih
    refine ⟨M+r x,fun m hm=>?_⟩
    rcases List.mem_cons.1 hm with rfl|hm
    ·omega
    ·have:=hM m hm; omega
  obtain ⟨M,hM⟩:=hM (vT t)
  refine ⟨fun m=>if Rch st m n then r m+M+1 else r m,fun k u hku m hm=>?_⟩
  by_cases hkn:n=k
  ·subst hkn
   rw [List.getElem?_set_self hnl,Option.some.injEq,Option.some.injEq] at hku
   subst hku
   have h1:¬ Rch st m n:=fun e=>ho ⟨m,hm,e⟩
   have h2:=hM m hm
   simp only [if_neg h1,if_pos (Rch.refl (st:=st) n)]
   omega
  ·rw [List.getElem?_set_ne hkn] at hku
   have h1:=hr k u hku m hm
   by_cases hmn:Rch st m n
   ·have h2:Rch st k n:=.step hku hm hmn
    simp only [if_pos hmn,if_pos h2]
    omega
   ·simp only [if_neg hmn]
    split <;> omega
/- unification -/
inductive Job where
 | one (a b:T)
 | list (xs ys:List T)
inductive Uni:bu->Job->Bool->bu->Prop
 | same {st:bu} {a b a' b':T}:dy st a a'->dy st b b'->a'.kind=1->b'.kind=1->a'.n=b'.n->Uni st (.one a b) true st
 | bindA {st:bu} {a b a' b':T}:dy st a a'->dy st b b'->a'.kind=1->¬ (b'.kind=1/\a'.n=b'.n)->¬ fi st a'.n.toNat b'->Uni st (.one a b) true (st.set a'.n.toNat (some b'))
 | occA {st:bu} {a b a' b':T}:dy st a a'->dy st b b'->a'.kind=1->¬ (b'.kind=1/\a'.n=b'.n)->fi st a'.n.toNat b'->Uni st (.one a b) false st
 | bindB {st:bu} {a b a' b':T}:dy st a a'->dy st b b'->a'.kind≠1->b'.kind=1->¬ fi st b'.n.toNat a'->Uni st (.one a b) true (st.set b'.n.toNat (some a'))
 | occB {st:bu} {a b a' b':T}:dy st a a'->dy st b b'->a'.kind≠1->b'.kind=1->fi st b'.n.toNat a'->Uni st (.one a b) false st
 | clash {st:bu} {a b a' b':T}:dy st a a'->dy st b b'->a'.kind≠1->b'.kind≠1->jk a' b'=false->Uni st (.one a b) false st
 | kids {st st':bu} {a b a' b':T} {r:Bool}:dy st a a'->dy st b b'->a'.kind≠1->b'.kind≠1->jk a' b'=true->Uni st (.list a'.kids b'.kids) r st'->Uni st (.one a b) r st'
 | nil {st:bu}:Uni st (.list [] []) true st
 | stop {st st':bu} {a b:T} {xs ys:List T}:Uni st (.one a b) false st'->Uni st (.list (a::xs) (b::ys)) false st'
 | go {st st1 st':bu} {a b:T} {xs ys:List T} {r:Bool}:Uni st (.one a b) true st1->Uni st1 (.list xs ys) r st'->Uni st (.list (a::xs) (b::ys)) r st'
def okJ (N:Nat):Job->Prop
 | .one a b=>(okU N a/\wT a<=1048576)/\(okU N b/\wT b<=1048576)
 | .list xs ys=>(∀ a∈xs,okU N a/\wT a<=1048576)/\(∀ b∈ys,okU N b/\wT b<=1048576)/\xs.length=ys.length
theorem ky {N:Nat} {t:T} (h:okU N t/\wT t<=1048576):∀ x∈t.kids,okU N x/\wT x<=1048576:=by
 intro x hx
 refine ⟨jL h.1.kids x hx,?_⟩
 have h1:=gF hx
 have h2:=h.2
 cases t
 rw [wT] at h2
 simp only [T.kids] at h1
 omega
theorem nq {a b:T} (h:jk a b=true):a.kids.length=b.kids.length:=by
 rw [jk] at h
 simp only [Bool.and_eq_true,decide_eq_true_eq] at h
 exact h.2.2.2
theorem sH {N:Nat} {st:bu} (h:Good N st) {a:T} (hk:a.kind=1) (hl:gL st a=none) (ho:okU N a):st[a.n.toNat]?=some none:=by
 obtain ⟨h0,h1,_⟩:=ho.var hk
 rcases uz.1 hl hk with e|e
 ·have:=List.getElem?_eq_none_iff.1 e
  have:=h.len
  omega
 ·exact e
theorem Uni.good {N:Nat} {st st':bu} {j:Job} {r:Bool} (hu:Uni st j r st'):Good N st->okJ N j->Good N st'/\(st'=st ∨ unb st'<unb st):=by
 induction hu with
 | same=>exact fun h _=>⟨h,.inl rfl⟩
 | occA=>exact fun h _=>⟨h,.inl rfl⟩
 | occB=>exact fun h _=>⟨h,.inl rfl⟩
 | clash=>exact fun h _=>⟨h,.inl rfl⟩
 | nil=>exact fun h _=>⟨h,.inl rfl⟩
 | bindA ha hb hk hns ho=>
  rename_i a' b'
  intro h hj
  have h1:=eG h ha hj.1
  have h2:=eG h hb hj.2
  have hf:=sH h hk (iO ha) h1.1
  have:=sB _ _ b' hf
  exact ⟨h.set hf h2.1 h2.2 ho,.inr (by omega)⟩
 | bindB ha hb hns hk ho=>
  rename_i a' b'
  intro h hj
  have h1:=eG h ha hj.1
  have h2:=eG h hb hj.2
  have hf:=sH h hk (iO hb) h2.1
  have:=sB _ _ a' hf
  exact ⟨h.set hf h1.1 h1.2 ho,.inr (by omega)⟩
 | kids ha hb _ _ hd _ ih=>
  intro h hj
  exact ih h ⟨ky (eG h ha hj.1),ky (eG h hb hj.2),nq hd⟩
 | stop _ ih=>
  intro h hj
  exact ih h ⟨hj.1 _ (List.mem_cons_self ..),hj.2.1 _ (List.mem_cons_self ..)⟩
 | go _ _ ih1 ih2=>
  intro h hj
  obtain ⟨h1,h2⟩:=ih1 h ⟨hj.1 _ (List.mem_cons_self ..),hj.2.1 _ (List.mem_cons_self ..)⟩
  obtain ⟨h3,h4⟩:=ih2 h1 ⟨fun a ha=>hj.1 a (List.mem_cons_of_mem _ ha),fun b hb=>hj.2.1 b (List.mem_cons_of_mem _ hb),by have:=hj.2.2; simpa using this⟩
  refine ⟨h3,?_⟩
  rcases h2 with rfl|h2
  ·exact h4
  ·rcases h4 with rfl|h4
   ·exact .inr h2
   ·exact .inr (by omega)
open Classical in
theorem Lf {N:Nat}:∀ (U:Nat) (st:bu),Good N st->unb st<=U->∀ j,okJ N j->∃ r st',Uni st j r st':=by
 intro U
 induction U using Nat.strongRecOn with
 | _ U ihU=>
  intro st hg hU
  -- lists of terms of which each is known to have an answer
  have hlist:∀ (xs ys:List T),okJ N (.list xs ys)->(∀ a∈xs,∀ b,okJ N (.one a b)->∃ r st',Uni st (.one a b) r st')->∃ r st',Uni st (.list xs ys) r st':=by
   intro xs
   induction xs with
   | nil=>
    intro ys hj _
    have:ys=[]:=List.eq_nil_of_length_eq_zero hj.2.2.symm
    subst this
    exact ⟨true,st,.nil⟩
   | cons a xs ih=>
    intro ys hj hP
    cases ys with
    | nil=>have:=hj.2.2; simp at this
    | cons b ys=>
     have hjab:okJ N (.one a b):=⟨hj.1 _ (List.mem_cons_self ..),hj.2.1 _ (List.mem_cons_self ..)⟩
     have hjl:okJ N (.list xs ys):=⟨fun a ha=>hj.1 a (List.mem_cons_of_mem _ ha),fun b hb=>hj.2.1 b (List.mem_cons_of_mem _ hb),by have:=hj.2.2; simpa using this⟩
     obtain ⟨r,st1,h1⟩:=hP a (List.mem_cons_self ..) b hjab
     cases r with
     | false=>exact ⟨false,st1,.stop h1⟩
     | true=>
      obtain ⟨hg1,hu1⟩:=h1.good hg hjab
      rcases hu1 with rfl|hu1
      ·obtain ⟨r,st2,h2⟩:=ih ys hjl fun a ha=>hP a (List.mem_cons_of_mem _ ha)
       exact ⟨r,st2,.go h1 h2⟩
      ·obtain ⟨r,st2,h2⟩:=ihU (unb st1) (by omega) st1 hg1 (Nat.le_refl _) _ hjl
       exact ⟨r,st2,.go h1 h2⟩
  obtain ⟨rk,hrk⟩:=hg.rk
  have hone:∀ (m:Nat) (a:T),(∀ x∈vT a,∀ u,st[x]?=some (some u)->rk x<m)->∀ b,okJ N (.one a b)->∃ r st',Uni st (.one a b) r st':=by
   intro m
   induction m using Nat.strongRecOn with
   | _ m ihm=>
    refine T.ind fun k n s ks ih hr b hj=>?_
    obtain ⟨b',hb⟩:=HR hg b
    have hbo:=eG hg hb hj.2
    cases hl:gL st (.mk k n s ks) with
    | some u=>
     obtain ⟨hk,hs⟩:=dK.1 hl
     have hlt:=hr _ (by rw [iK hk]; exact List.mem_singleton.2 rfl) u hs
     have hju:okJ N (.one u b):=⟨hg.look_ok hl,hj.2⟩
     obtain ⟨r,st',hu⟩:=ihm _ hlt u (fun x hx _ _=>hrk _ _ hs x hx) b hju
     refine ⟨r,st',?_⟩
     cases hu with
     | same h1 h2 h3 h4 h5=>exact .same (.step hl h1) h2 h3 h4 h5
     | bindA h1 h2 h3 h4 h5=>exact .bindA (.step hl h1) h2 h3 h4 h5
     | occA h1 h2 h3 h4 h5=>exact .occA (.step hl h1) h2 h3 h4 h5
     | bindB h1 h2 h3 h4 h5=>exact .bindB (.step hl h1) h2 h3 h4 h5
     | occB h1 h2 h3 h4 h5=>exact .occB (.step hl h1) h2 h3 h4 h5
     | clash h1 h2 h3 h4 h5=>exact .clash (.step hl h1) h2 h3 h4 h5
     | kids h1 h2 h3 h4 h5 h6=>exact .kids (.step hl h1) h2 h3 h4 h5 h6
    | none=>
     have ha:dy st (.mk k n s ks) (.mk k n s ks):=.stop hl
     by_cases hk:(T.mk k n s ks).kind=1
     ·by_cases hsame:b'.kind=1/\(T.mk k n s ks).n=b'.n
      ·exact ⟨_,_,.same ha hb hk hsame.1 hsame.2⟩
      ·by_cases ho:fi st (T.mk k n s ks).n.toNat b'
       ·exact ⟨_,_,.occA ha hb hk hsame ho⟩
       ·exact ⟨_,_,.bindA ha hb hk hsame ho⟩
     ·by_cases hkb:b'.kind=1
      ·by_cases ho:fi st b'.n.toNat (T.mk k n s ks)
       ·exact ⟨_,_,.occB ha hb hk hkb ho⟩
       ·exact ⟨_,_,.bindB ha hb hk hkb ho⟩
      ·cases hd:jk (T.mk k n s ks) b' with
       | false=>exact ⟨_,_,.clash ha hb hk hkb hd⟩
       | true=>
        obtain ⟨r,st',hu⟩:=hlist ks b'.kids ⟨ky hj.1,ky hbo,nq hd⟩ fun a ha' b2 hj2=>
         ih a ha' (fun x hx u hs=>hr x (by rw [xr hk]; exact mf.2 ⟨a,ha',hx⟩) u hs) b2 hj2
        exact ⟨r,st',.kids ha hb hk hkb hd hu⟩
  have hall:∀ a b,okJ N (.one a b)->∃ r st',Uni st (.one a b) r st':=by
   intro a b hj
   have hM:∀ l:List Nat,∃ M,∀ m∈l,rk m<M:=by
    intro l
    induction l with
    | nil=>exact ⟨0,by simp⟩
    | cons x l ih=>
     obtain ⟨M,hM⟩:=ih
     refine ⟨M+rk x+1,fun m hm=>?_⟩
     rcases List.mem_cons.1 hm with rfl|hm
     ·omega
     ·have:=hM m hm; omega
   obtain ⟨M,hM⟩:=hM (vT a)
   exact hone M a (fun x hx _ _=>hM x hx) b hj
  intro j hj
  cases j with
  | one a b=>exact hall a b hj
  | list xs ys=>exact hlist xs ys hj fun a _ b hjb=>hall a b hjb
/- resolved terms -/
inductive Jg where
 | one (t u:T)
 | list (ts us:List T)
inductive Res (st:bu):Jg->Prop
 | one {t v:T} {us:List T}:dy st t v->Res st (.list v.kids us)->Res st (.one t (.mk v.kind v.n v.name us))
 | nil:Res st (.list [] [])
 | cons {t u:T} {ts us:List T}:Res st (.one t u)->Res st (.list ts us)->Res st (.list (t::ts) (u::us))
theorem Lv {N:Nat} {st:bu} (h:Good N st) (t:T) (ho:okU N t):∃ u,Res st (.one t u):=by
 obtain ⟨rk,hrk⟩:=h.rk
 have hlist:∀ ts:List T,(∀ t∈ts,∃ u,Res st (.one t u))->∃ us,Res st (.list ts us):=by
  intro ts
  induction ts with
  | nil=>exact fun _=>⟨[],.nil⟩
  | cons t ts ih=>
   intro hP
   obtain ⟨u,hu⟩:=hP t (List.mem_cons_self ..)
   obtain ⟨us,hus⟩:=ih fun x hx=>hP x (List.mem_cons_of_mem _ hx)
   exact ⟨u::us,.cons hu hus⟩
 have hone:∀ (m:Nat) (a:T),(∀ x∈vT a,∀ u,st[x]?=some (some u)->rk x<m)->(okU N a)->∃ u,Res st (.one a u):=by
  intro m
  induction m using Nat.strongRecOn with
  | _ m ihm=>
   refine T.ind fun k n s ks ih hr ho=>?_
   cases hl:gL st (.mk k n s ks) with
   | some u=>
    obtain ⟨hk,hs⟩:=dK.1 hl
    have hlt:=hr _ (by rw [iK hk]; exact List.mem_singleton.2 rfl) u hs
    obtain ⟨u',hu⟩:=ihm _ hlt u (fun x hx _ _=>hrk _ _ hs x hx) (h.look_ok hl).1
    refine ⟨u',?_⟩
    cases hu with
    | one h1 h2=>exact .one (.step hl h1) h2
   | none=>
    by_cases hk:(T.mk k n s ks).kind=1
    ·have:=(ho.var hk).2.2.2
     have e:ks=[]:=this
     subst e
     exact ⟨_,.one (.stop hl) .nil⟩
    ·obtain ⟨us,hus⟩:=hlist ks fun a ha=>ih a ha (fun x hx u hs=>hr x (by rw [xr hk]; exact mf.2 ⟨a,ha,hx⟩) u hs) (jL ho.kids a ha)
     exact ⟨_,.one (.stop hl) hus⟩
 have hM:∀ l:List Nat,∃ M,∀ m∈l,rk m<M:=by
  intro l
  induction l with
  | nil=>exact ⟨0,by simp⟩
  | cons x l ih=>
   obtain ⟨M,hM⟩:=ih
   refine ⟨M+rk x+1,fun m hm=>?_⟩
   rcases List.mem_cons.1 hm with rfl|hm
   ·omega
   ·have:=hM m hm; omega
 obtain ⟨M,hM⟩:=hM (vT t)
 exact hone M t (fun x hx _ _=>hM x hx) ho

end Go.Proofs.YtnmnddpdikghhaaGreat

/- Terms drawn: literal lists, appends in any order, spec.l1Draw, l1Some, l1Mutate: what is drawn is readable and light. -/
namespace Go.Proofs.YtnmnddpdikghhaaGreat
open Go Go.RowKit
theorem K5 {b:Bool} {n:Nat} (h:b=decide (1<=n)) (h':b=false):n=0:=by
 rw [h',eq_comm,decide_eq_false_iff_not] at h; omega
theorem uv {a b:Bool} {k n:Nat} (h:a=decide (k<=n)) (ha:a=true) (h':b=decide (k+1<=n)) (hb:b=false):n=k:=by
 rw [ha,eq_comm,decide_eq_true_iff] at h
 rw [hb,eq_comm,decide_eq_false_iff_not] at h'
 omega
theorem KQ {b:Bool} {n m:Nat} (hl:n<=m) (h:b=decide (m<=n)) (hb:b=true):n=m:=by
 rw [hb,eq_comm,decide_eq_true_iff] at h; omega
theorem KO {b l:Bool} {n m:Nat} (h:b=decide (m<=n)) (k:b=true->l=true) (hl:l=false):n<m:=by
 cases b
 ·rw [eq_comm,decide_eq_false_iff_not] at h; omega
 ·rw [k rfl] at hl; cases hl
def Jx:List (Nat × Value)->List ByteArray
 | (_,.string s)::l=>s::Jx l
 | _=>[]
def Ky:List (Nat × Value)->List Int
 | (_,.int _ n)::l=>n::Ky l
 | _=>[]
theorem JV {α:Type} {f:α->Value} (l:List α) {i:Nat} (hi:i<l.length):bJ (l.map f).toArray i 1=[f l[i]]:=by
 rw [bJ,List.drop_eq_getElem_cons (by simpa using hi)]
 simp
theorem RdSl.monoU {S S':ay} {v:Value} {ys:List Nat} (hs:Sle S S') (h:RdSl S 1 kR v ys):RdSl S' 1 kR v ys:=h.mono hs fun _ _ h=>h
theorem Lk {S:ay} {b:Nat} {E:TypeId} {cs:List Value} {t:T} (hS:S b=some (.cells cs.toArray E)) (h:RdT S cs t):RdSl S 4 (RdT S) (.slice (some ⟨b,0,none⟩) 1 1) [t]:=by
 refine ⟨_,1,rfl,Nat.le_refl _,by simp [maxLen],.inr ⟨b,0,_,E,(0,0),rfl,hS,fun i hi=>?_⟩⟩
 match i,hi with
 | 0,_=>
  have e:bJ cs.toArray (0+0 * 4) 4=cs:=by
   rw [bJ]
   simpa using List.take_of_length_le (Nat.le_of_eq h.length)
  rw [e]
  exact h
section
variable {w0 w:World} {X:List Nat} {L A:List Item} {S:ay} {K:Value->World->Prop}
attribute [local irreducible] Run CondV ai a4
theorem Inv.last (h:Inv w0 X L S w) (i:Nat) {it:Item} (hi:L[i]?=some it):Inv w0 X (L.eraseIdx i++[it]) S w:=by
 refine h.perm ?_
 obtain ⟨h1,_⟩:=tV hi it
 rw [List.eraseIdx_eq_take_drop_succ]
 conv=>rhs; rw [h1]
 rw [List.append_assoc]
 exact List.Perm.append_left _ List.perm_append_comm
theorem qr {n:Nat} {ps:List (Nat × Value)} (h:Inv w0 X L S w)
  (hr:(aQ Bd n ps).run Tryz.prog w=.ok (.value (.slice (some ⟨w.heap.size,0,none⟩) n n)) { w with heap:=w.heap.push (.cells ((Jx ps).map Value.string).toArray i6) })
  (hn:(Jx ps).length=n) (hm:n<=1000) (hk:∀ v S1 w',Ext w0.heap.size X S S1->RdSl S1 1 pk v (Jx ps)->Inv w0 X L S1 w'->K v w'):Run Tryz.prog (aQ Bd n ps) w K:=by
 refine qL (v:=fun b=>.slice (some ⟨b,0,none⟩) n n) (o:=.cells ((Jx ps).map Value.string).toArray i6) h hr fun b w' hI=>?_
 obtain ⟨S1,hI,hE,hS⟩:=hI.pub1
 refine hk _ S1 w' hE ?_ hI
 exact RdSl.ofCells hS hn (by simp only [maxLen]; omega) fun i hi=>JV _ hi
theorem zx {n:Nat} {ps:List (Nat × Value)} (h:Inv w0 X L S w)
  (hr:(aQ nK n ps).run Tryz.prog w=.ok (.value (.slice (some ⟨w.heap.size,0,none⟩) n n)) { w with heap:=w.heap.push (.cells ((Ky ps).map (Value.int .i64)).toArray dw) })
  (hn:(Ky ps).length=n) (hm:n<=1000) (hk:∀ v S1 w',Ext w0.heap.size X S S1->RdSl S1 1 rT v (Ky ps)->Inv w0 X L S1 w'->K v w'):Run Tryz.prog (aQ nK n ps) w K:=by
 refine qL (v:=fun b=>.slice (some ⟨b,0,none⟩) n n) (o:=.cells ((Ky ps).map (Value.int .i64)).toArray dw) h hr fun b w' hI=>?_
 obtain ⟨S1,hI,hE,hS⟩:=hI.pub1
 refine hk _ S1 w' hE ?_ hI
 exact RdSl.ofCells hS hn (by simp only [maxLen]; omega) fun i hi=>JV _ hi
def nN (Q:Prop) (R:Nat->Prop):Nat->Prop
 | 0=>Q
 | n+1=>R n
/- one value drawn by a call, put behind a row: the stages -/
def v7 (w0:World) (X:List Nat) (b:Nat) (c:Array Value) (d:Nat) (E:TypeId) (kv:Value) (css:List (List Value)) (A:Nat->List Item) (Q:List Value->Nat->ay->Prop) (xv xs xa:Value) (w':World):Nat->Prop
 | 0=>∃ p1 S1 cs,Q cs p1 S1/\(cs.length=4/\∀ u∈cs,u.oneCell'=true)/\xv=.agg cs.toArray/\Inv w0 X (.blk b (.cells c E)::a5 kv ab 4 css::A p1) S1 w'
 | 1=>∃ p1 S1 cs b8,Q cs p1 S1/\(cs.length=4/\∀ u∈cs,u.oneCell'=true)/\xs=.slice (some ⟨b8,0,none⟩) 1 1/\Inv w0 X (.blk b (.cells c E)::a5 kv ab 4 css::(A p1++[.blk b8 (.cells cs.toArray ab)])) S1 w'
 | 2=>∃ p1 S1 cs,Q cs p1 S1/\(cs.length=4/\∀ u∈cs,u.oneCell'=true)/\Inv w0 X (.blk b (.cells c E)::a5 xa ab 4 (css++[cs])::A p1) S1 w'
 | 3=>∃ p1 S1 cs,Q cs p1 S1/\(cs.length=4/\∀ u∈cs,u.oneCell'=true)/\Inv w0 X (.blk b (.cells (c.setIfInBounds d xa) E)::a5 xa ab 4 (css++[cs])::A p1) S1 w'
 | _=>False
variable {b d:Nat} {c:Array Value} {E:TypeId} {kv:Value} {css:List (List Value)} {F:Nat->List Item} {Q:List Value->Nat->ay->Prop} {xv xs xa:Value}
theorem BN {n:Nat} (h:v7 w0 X b c d E kv css F Q xv xs xa w n) (hn:n<3):w.cell? ⟨b,d,none⟩=c[d]?:=by
 rcases n with _|_|_|n
 ·obtain ⟨p1,S1,cs,_,_,_,hI⟩:=h
  exact hI.cellL (i:=0) rfl
 ·obtain ⟨p1,S1,cs,b8,_,_,_,hI⟩:=h
  exact hI.cellL (i:=0) rfl
 ·obtain ⟨p1,S1,cs,_,_,hI⟩:=h
  exact hI.cellL (i:=0) rfl
 ·omega
theorem ap1 {B:Prop} (h:nN B (v7 w0 X b c d E kv css F Q xv xs xa w) 1) (hk:∀ u w',nN B (v7 w0 X b c d E kv css F Q xv u xa w') 2->K u w'):Run Tryz.prog (aQ rF 1 [(0,xv)]) w K:=by
 obtain ⟨p1,S1,cs,hQ,hl,rfl,hI⟩:=h
 refine dJ hI bC (by simp [Value.cells,hl.1]) (by omega) (by omega) fun b8 w' hI=>?_
 exact hk _ _ ⟨p1,S1,cs,b8,hQ,hl,rfl,hI⟩
theorem ap2 {B:Prop} {ty:TypeId} {bs:List Bool} (h:nN B (v7 w0 X b c d E kv css F Q xv xs xa w) 2) (hfit:css.length<=1000000) (hk:∀ u w',nN B (v7 w0 X b c d E kv css F Q xv xs u w') 3->K u w'):Run Tryz.prog (aE .append #[rF,rF] ty bs [kv,xs]) w K:=by
 obtain ⟨p1,S1,cs,b8,hQ,hl,rfl,hI⟩:=h
 have hblk:(Item.blk b (.cells c E)::a5 kv ab 4 css::(F p1++[.blk b8 (.cells cs.toArray ab)]))[(F p1).length+1+1]?=some (.blk b8 (.cells cs.toArray ab)):=by
  rw [List.getElem?_cons_succ,List.getElem?_cons_succ,List.getElem?_append_right (Nat.le_refl _),Nat.sub_self]; rfl
 refine ev hI 1 cs bC (by omega) rfl (by rw [hl.1]) (m:=1) (o:=0) ?_ hl.2 (by omega) (by omega) fun v' w_ hI=>?_
 ·intro i u hi
  rw [hI.cellL hblk,Nat.zero_add]
  simpa using hi
 rw [eN] at hI
 refine hk _ _ ⟨p1,S1,cs,hQ,hl,?_⟩
 exact hI.sub (((List.sublist_append_left _ _).cons_cons _).cons_cons _)
theorem ap3 {B:Prop} {ty:TypeId} (h:nN B (v7 w0 X b c d E kv css F Q xv xs xa w) 3) (hd:d<c.size) {K:Value->World->Prop} (hk:∀ w',nN B (v7 w0 X b c d E kv css F Q xv xs xa w') 4->K undef w'):Run Tryz.prog (sOp (.store rF (.const (.pointer (some ⟨b,d,none⟩))) (.const xa)) ty) w K:=by
 obtain ⟨p1,S1,cs,hQ,hl,hI⟩:=h
 obtain ⟨va,vn,vc,hv9⟩:=Inv.rowSlice hI 1 rfl
 refine ei hI 0 (n:=1) (by rw [hv9]; rfl) (by decide +kernel) rfl (by omega) (by rw [hv9]; simp [Value.cells,Value.oneCell']) fun w_ hI=>?_
 have hcl9:Value.cells xa=#[xa]:=by rw [hv9]; rfl
 have e:cD c d (Value.cells xa).toList=c.setIfInBounds d xa:=by
  rw [hcl9]
  apply Array.toList_inj.1
  simp only [cD,Array.toList_setIfInBounds]
  have hl:d<c.toList.length:=by simpa using hd
  rw [List.set_eq_take_append_cons_drop,if_pos hl]
  simp
 rw [e] at hI
 exact hk _ ⟨p1,S1,cs,hQ,hl,hI⟩
end
/- how much a drawn term weighs, and how far the reader has gone -/
abbrev dW (d:Nat):Nat:=6 * 3 ^ d
theorem JC (d:Nat):6<=dW d:=by
 have:0<3 ^ d:=Nat.pow_pos (by omega)
 simp only [dW]; omega
theorem K9 (d:Nat):dW (d+1)=3 * dW d:=by simp only [dW,Nat.pow_succ]; omega
abbrev LI (br:Nat) (sl:Value) (p d:Nat):Value->List Item->ay->Prop:=fun v I' S'=>∃ p',p'+2<=p+dW d/\I'=[rdI br sl p']/\∃ cs t,v=.agg cs.toArray/\RdT S' cs t/\wT t+3<=dW d/\okU 26 t
end Go.Proofs.YtnmnddpdikghhaaGreat

/- spec.l1Draw, l1Some: a drawn term is readable and light. -/
namespace Go.Proofs.YtnmnddpdikghhaaGreat
open Go Go.RowKit
theorem sD {l:List Int} {n a b:Int} (hm:n∈l) (h:(l.all fun n=>decide (a<=n) && decide (n<=b))=true):a<=n/\n<=b:=by
 rw [List.all_eq_true] at h
 have:=h n hm
 rw [Bool.and_eq_true,decide_eq_true_eq,decide_eq_true_eq] at this
 exact this
theorem xl {l:List ByteArray} {s:ByteArray} {m:Nat} (hm:s∈l) (h:(l.all fun s=>decide (s.size<=m))=true):s.size<=m:=by
 rw [List.all_eq_true] at h
 have:=h s hm
 rwa [decide_eq_true_eq] at this
theorem Ho {Q B:Prop} {R:Nat->Prop} (h1:Q->B) (h2:∀ n,n<3->R n->B):∀ {n:Nat},nN Q R n->n<4->B
 | 0,h,_=>h1 h
 | n+1,h,hn=>h2 n (by omega) h
theorem lC:∀ l m:List T,wL (l++m)=wL l+wL m
 | [],m=>by simp [wL]
 | t::l,m=>by simp only [List.cons_append,wL,lC l m]; omega
theorem KH {n:Int} (h:0<=n/\n<26):okU 26 (.mk 1 n emptyB []):=by
 simp only [okU,dA]
 exact ⟨by decide,fun _=>⟨h.1,h.2,trivial,trivial⟩,trivial,by decide⟩
theorem K4 {n:Int}:okU 26 (.mk 2 n emptyB []):=by
 simp only [okU,dA]
 exact ⟨by decide,(fun h=>by cases h),trivial,by decide⟩
theorem Dh {s:ByteArray} {ts:List T} (hs:s.size<=6) (h:dA 26 ts):okU 26 (.mk 3 0 s ts):=by
 simp only [okU]
 exact ⟨by decide,(fun h=>by cases h),h,hs⟩
theorem ya {N:Nat}:∀ {l m:List T},dA N l->dA N m->dA N (l++m)
 | [],_,_,h=>h
 | _::_,_,h,h'=>by
  rw [dA] at h
  rw [List.cons_append,dA]
  exact ⟨h.1,ya h.2 h'⟩
theorem sI {S:ay} {k n:Int} (hk:inI k) (hn:inI n):RdT S [.int .i64 k,.int .i64 n,.string ⟨#[]⟩,.slice none 0 0] (.mk k n emptyB []):=
 RdT.iff.2 ⟨_,rfl,hk,hn,Nat.zero_le _,lL S⟩
section
variable {w0 w:World} {X:List Nat} {L:List Item} {S:ay} {K:Value->World->Prop} {P:Program}
attribute [local irreducible] Run CondV ai a4
theorem Run.callL {f:FuncId} {fn:Func} {args:List Value} {I:List Item} {Post:Value->List Item->ay->Prop}
  (hf:P.funcs[f]?=some fn) (hn:(fn.name == "runtime.NumGoroutine" || fn.body.isNone)=false) (h:Inv w0 X L S w) (hc:Tri P f args I S Post) (hL:L=L.dropLast++I)
  (hk:∀ v I' S' w',Post v I' S'->Ext w0.heap.size X S S'->Inv w0 X (L.dropLast++I') S' w'->K v w'):Run P (aF (.func (.func f) #[] #[]) args) w K:=
 Run.callE (A:=L.dropLast) hf hn (hL ▸ h) hc hk
theorem Dk {T:TypeId} {cx cy:Bool} {d:Nat} (hd:d<=1000000) (hk:K (.int .i64 (d:Int)) w):Run P (av .sub T cx cy (.int .i64 ((d+1:Nat):Int)) (.int .i64 1)) w K:=by
 refine lq (by omega) ?_
 rw [show ((d+1:Nat):Int) - 1=d by omega]
 exact hk
theorem CB {B:Prop} {b d:Nat} {c:Array Value} {E:TypeId} {kv xs xa:Value} {css:List (List Value)} {F:Nat->List Item} {Q:List Value->Nat->ay->Prop} {p1:Nat} {S1:ay} {cs:List Value} {t:T}
  (hQ:Q cs p1 S1) (hr:RdT S1 cs t) (hI:Inv w0 X (.blk b (.cells c E)::a5 kv ab 4 css::F p1) S1 w):nN B (v7 w0 X b c d E kv css F Q (.agg cs.toArray) xs xa w) 1:=
 ⟨p1,S1,cs,hQ,⟨hr.length,hr.one⟩,rfl,hI⟩
end
section
variable {br:Nat} {sl:Value} {ys:List Nat}
attribute [local irreducible] Run CondV ai a4
abbrev GT (br:Nat) (sl:Value) (ys:List Nat) (d:Nat):Prop:=∀ (p:Nat) (S:ay),RdSl S 1 kR sl ys->p+3 * dW d<=1000000000->Tri Tryz.prog Gl [rdP br,.int .i64 (d:Int)] [rdI br sl p] S (LI br sl p d)
theorem Bg {d:Nat} (hd4:d<=4) (ih:∀ d',d'+1=d->GT br sl ys d'):GT br sl ys d:=by
 intro p S hrd hp w hI
 have hW:=JC d
 refine yd ?_
 unfold u1
 refine a9 hI bt fun b4 w' hI=>?_
 have hI:Inv w [br] [.blk b4 (.cells #[.int .i64 0,.int .i64 0,.string ⟨#[]⟩,.slice none 0 0] ab),rdI br sl p] S w':=hI.last 0 rfl
 refine ⟨fun v w'=>∃ (c:Bool) (p1:Nat),v=.bool c/\p1<=p+1/\(c=false->2<=d)/\Inv w [br] [.blk b4 (.cells #[.int .i64 0,.int .i64 0,.string ⟨#[]⟩,.slice none 0 0] ab),rdI br sl p1] S w',?_,?_⟩
 ·refine cF ?_
  by_cases hd:(d:Int)<2
  ·rw [decide_eq_true hd]
   repeat (first|refine ae ?_|refine ah (by decide) ?_|refine ad ?_|refine al ?_|refine aj ?_)
   exact ⟨true,p,rfl,by omega,(fun h=>by cases h),hI⟩
  ·rw [decide_eq_false hd]
   repeat (first|refine ae ?_|refine ah (by decide) ?_|refine ad ?_|refine al ?_|refine aj ?_)
   refine Run.callL bU bT hI (dI (n:=4) hrd (by omega) (by omega)) rfl fun v' I' S' w'=>?_
   rintro ⟨rfl,rfl,k,hk,rfl⟩ _ hI
   refine bO ?_
   repeat (first|refine ae ?_|refine ah (by decide) ?_|refine ad ?_|refine al ?_|refine aj ?_)
   exact ⟨_,p+1,rfl,by omega,fun _=>by omega,hI⟩
 intro t13 _ _ _ _ _ _ w'
 rintro ⟨c,p1,rfl,hp1,hcd,hI⟩
 refine a7 (fun _=>?_) (fun hc=>?_)
 ·refine Run.callL bU bT hI (dI (n:=4) hrd (by omega) (by omega)) rfl fun v' I' S' w'=>?_
  rintro ⟨rfl,rfl,k,hk,rfl⟩ _ hI
  have hI:Inv w [br] [.blk b4 (.cells #[.int .i64 0,.int .i64 0,.string ⟨#[]⟩,.slice none 0 0] ab),rdI br sl (p1+1)] S' w':=hI
  refine bO ?_
  refine bF (fun _=>?_) (fun _=>?_)
  ·refine Run.callL bU bT hI (dI (n:=4) hrd (by omega) (by omega)) rfl fun v' I' S1 w'=>?_
   rintro ⟨rfl,rfl,k,hk,rfl⟩ _ hI
   refine Run.callPure yu yD hI (pN k S1) fun w' hI=>?_
   refine aM hI 0 rfl ag rfl rfl (by simp [Value.oneCell']) fun w' hI=>?_
   refine bA hI 0 ag rfl rfl ?_
   exact ⟨_,_,S1,rfl,hI.pick [false,true],Ext.refl _ _ _,p1+2,by omega,rfl,_,_,rfl,sI (by simp [inI]) (by simp only [inI]; omega),by have e:emptyB.size=0:=rfl; simp only [wT,wL,List.length_nil,e]; omega,KH (by omega)⟩
  refine bO ?_
  refine bF (fun _=>?_) (fun _=>?_)
  ·refine zx hI (by kernel_rfl) rfl (by omega) fun v S1 w' hE1 hv hI=>?_
   refine Run.callL gd gk hI (ln (p:=p1+1) (hrd.monoU hE1.1) hv (by decide) (by omega)) rfl fun v' I' S2 w'=>?_
   rintro ⟨rfl,rfl,n,hn,rfl⟩ _ hI
   have hn:=sD (a:=-1000) (b:=1000) hn (by decide)
   refine Run.callPure p5 qf hI (kM n S2) fun w' hI=>?_
   refine aM hI 0 rfl ag rfl rfl (by simp [Value.oneCell']) fun w' hI=>?_
   refine bA hI 0 ag rfl rfl ?_
   exact ⟨_,_,S2,rfl,hI.pick [false,true],hE1,p1+2,by omega,rfl,_,_,rfl,sI (by simp [inI]) (by simp only [inI]; omega),by have e:emptyB.size=0:=rfl; simp only [wT,wL,List.length_nil,e]; omega,K4⟩
  ·refine qr hI (by kernel_rfl) rfl (by omega) fun v S1 w' hE1 hv hI=>?_
   refine Run.callL iS iW hI (r5 (p:=p1+1) (hrd.monoU hE1.1) hv (by decide) (by omega)) rfl fun v' I' S2 w'=>?_
   rintro ⟨rfl,rfl,s,hs,rfl⟩ _ hI
   have hs:=xl (m:=3) hs (by decide)
   refine Run.call0E dZ d4 hI (eO s (by simp only [maxLen]; omega) (lL S2) (by simp)) fun v' I' S3 w'=>?_
   rintro ⟨rfl,cs,rfl,hcs⟩ hE3 hI
   refine aM hI 0 rfl ag (by simpa using hcs.length) rfl (by simpa using hcs.one) fun w' hI=>?_
   refine bA hI 0 ag rfl (by simpa using hcs.length) ?_
   exact ⟨_,_,S3,rfl,hI.pick [false,true],hE1.trans hE3,p1+2,by omega,rfl,_,_,rfl,hcs,by simp only [wT,wL,List.length_nil]; omega,Dh (by omega) (by simp only [dA])⟩
 obtain ⟨d',rfl⟩:∃ d',d=d'+1:=⟨d - 1,by have:=hcd hc; omega⟩
 have ih:=ih d' rfl
 have hD:=JC d'
 have hDs:=K9 d'
 have h3:dW d'<=486:=by
  have:3 ^ d'<=3 ^ 4:=Nat.pow_le_pow_right (by omega) (by omega)
  simp only [dW]; omega
 refine Run.callL bU bT hI (dI (n:=3) hrd (by omega) (by omega)) rfl fun v' I' S w'=>?_
 rintro ⟨rfl,rfl,k,hk,rfl⟩ _ hI
 refine bO ?_
 refine bF (fun _=>?_) (fun _=>?_)
 ·refine Dk (by omega) ?_
  refine Run.callL j6 kD hI (ih (p1+1) S hrd (by omega)) rfl fun v' I' S1 w'=>?_
  rintro ⟨p2,hp2,rfl,cs1,t1,rfl,hc1,hw1,ho1⟩ hE1 hI
  refine Dk (by omega) ?_
  refine Run.callL j6 kD hI (ih p2 S1 (hrd.monoU hE1.1) (by omega)) rfl fun v' I' S2 w'=>?_
  rintro ⟨p3,hp3,rfl,cs2,t2,rfl,hc2,hw2,ho2⟩ hE2 hI
  have hc1:=RdT.mono hE2.1 hc1
  obtain ⟨kv1,rfl,_,_,_,a1,q1,rfl,_⟩:=RdT.iff.1 hc1
  obtain ⟨kv2,rfl,_,_,_,a2,q2,rfl,_⟩:=RdT.iff.1 hc2
  refine qL (v:=fun b=>.slice (some ⟨b,0,none⟩) 2 2) (o:=.cells #[.int .i64 t1.kind,.int .i64 t1.n,.string t1.name,.slice a1 t1.kids.length q1,.int .i64 t2.kind,.int .i64 t2.n,.string t2.name,.slice a2 t2.kids.length q2] ab) hI (by kernel_rfl) fun b w' hI=>?_
  have hI:Inv w [br] ([.blk b4 (.cells #[.int .i64 0,.int .i64 0,.string ⟨#[]⟩,.slice none 0 0] ab),rdI br sl p3]++[_]) S2 w':=hI
  obtain ⟨S3,hI,hE3,hS⟩:=hI.pub1
  refine Run.call0E dZ d4 hI (eO ⟨#[46]⟩ (by decide) (FS hS (hc1.mono hE3.1) (hc2.mono hE3.1)) (by simp)) fun v' I' S4 w'=>?_
  rintro ⟨rfl,cs,rfl,hcs⟩ hE4 hI
  refine aM hI 0 rfl ag (by simpa using hcs.length) rfl (by simpa using hcs.one) fun w' hI=>?_
  refine bA hI 0 ag rfl (by simpa using hcs.length) ?_
  refine ⟨_,_,S4,rfl,hI.pick [false,true],(hE1.trans hE2).trans (hE3.trans hE4),p3,by omega,rfl,_,_,rfl,hcs,?_,Dh (by decide) (by simp only [dA]; exact ⟨ho1,ho2,trivial⟩)⟩
  have e:(ByteArray.mk #[46]).size=1:=rfl
  simp only [wT,wL,List.length_cons,List.length_nil,e]
  omega
 ·refine qr hI (by kernel_rfl) rfl (by omega) fun v S1 w' hE1 hv hI=>?_
  refine Run.callL iS iW hI (r5 (p:=p1+1) (hrd.monoU hE1.1) hv (by decide) (by omega)) rfl fun v' I' S2 w'=>?_
  rintro ⟨rfl,rfl,s,hs,rfl⟩ _ hI
  have hs:=xl (m:=3) hs (by decide)
  refine Run.call0E dZ d4 hI (rz s (lL S2) (by simp)) fun v' I' S3 w'=>?_
  rintro ⟨rfl,kv0,css0,rfl,rfl,hR0⟩ hE3 hI
  refine a9 hI bt fun b5 w' hI=>?_
  obtain ⟨a0,n0,q0,rfl⟩:=hI.rowSlice 2 rfl
  refine aM hI 3 rfl ag rfl rfl (by simp [Value.oneCell']) fun w' hI=>?_
  obtain ⟨B4,hB4⟩:∃ B4,B4=Item.blk b4 (.cells #[.int .i64 0,.int .i64 0,.string ⟨#[]⟩,.slice none 0 0] ab):=⟨_,rfl⟩
  have hI:Inv w [br] [.blk b5 (.cells #[.int .i64 3,.int .i64 0,.string s,.slice a0 n0 q0] ab),a5 (.slice a0 n0 q0) ab 4 css0,B4,rdI br sl (p1+2)] S3 w':=by
   rw [hB4]
   exact ((hI.last 2 rfl).last 0 rfl).last 0 rfl
  refine zx hI (by kernel_rfl) rfl (by omega) fun v S4 w' hE4 hv hI=>?_
  refine Run.callL gd gk hI (ln (p:=p1+2) (hrd.monoU ((hE1.trans hE3).trans hE4).1) hv (by decide) (by omega)) rfl fun v' I' S5 w'=>?_
  rintro ⟨rfl,rfl,n,hn,rfl⟩ _ hI
  have hn:=sD (a:=1) (b:=3) hn (by decide)
  have hE5:Ext w.heap.size [br] S S5:=(hE1.trans hE3).trans hE4
  refine ⟨fun t w'=>∃ (j p2:Nat) (S6:ay) (kv:Value) (css:List (List Value)) (ts:List T),dA 26 ts/\t=.int .i64 (j:Int)/\ts.length+j<=3/\Rows 4 (RdT S6) css ts/\wL ts+3 * ts.length<=ts.length * dW d'/\p2+2 * ts.length<=p1+3+ts.length * dW d'/\Ext w.heap.size [br] S S6/\
   Inv w [br] [.blk b5 (.cells #[.int .i64 3,.int .i64 0,.string s,kv] ab),a5 kv ab 4 css,B4,rdI br sl p2] S6 w',fun t _=>(intOf t).toNat,
   ⟨n.toNat,p1+3,S5,_,css0,[],by simp only [dA],by rw [Int.toNat_of_nonneg (by omega)],by simp; omega,hR0.monoR fun _ _ h=>RdT.mono hE4.1 h,by simp [wL],by simp,hE5,hI⟩,?_⟩
  intro t6 _ _ t63 t62 t61 t60 t59 t58 t57 t56 t55 _ _ w'
  rintro ⟨j,p2,S6,kv,css,ts,hou,rfl,hj,hR,hwts,hp2,hE6,hI⟩
  have hcl:=hR.hc
  have hm:ts.length * dW d'<=3 * dW d':=Nat.mul_le_mul_right _ (by omega)
  refine ff ?_
  refine bF (fun hj0=>?_) (fun hj0=>?_)
  ·obtain ⟨j',rfl⟩:∃ j',j=j'+1:=⟨j - 1,by omega⟩
   refine ⟨fun D cO dq dr dn di dj dk dp dl w_=>(D 0=true->dl=.pointer (some ⟨b5,3,none⟩))/\(D 1=true->dp=kv)/\(D 2=true->dk=rdP br)/\(D 3=true->dj=.int .i64 ((d'+1:Nat):Int))/\(D 4=true->di=.int .i64 (d':Int))/\(D 5=true->True)/\(D 6=true->True)/\(D 7=true->True)/\(D 8=true->cO=.pointer (some ⟨b5,3,none⟩))/\(D 9=true->True)/\∃ n_:Nat,n_<=4/\D 5=decide (1<=n_)/\D 6=decide (2<=n_)/\D 7=decide (3<=n_)/\D 9=decide (4<=n_)/\(D 9=true->D 1=true)/\(nN (Inv w [br] [.blk b5 (.cells #[.int .i64 3,.int .i64 0,.string s,kv] ab),a5 kv ab 4 css,B4,rdI br sl p2] S6 w_) (v7 w [br] b5 #[.int .i64 3,.int .i64 0,.string s,kv] 3 ab kv css (fun p=>[B4,rdI br sl p]) (fun cs p' S'=>∃ t,okU 26 t/\RdT S' cs t/\wT t+3<=dW d'/\p'+2<=p2+dW d'/\Ext w.heap.size [br] S6 S') dn dr dq w_) n_),⟨af,af,af,af,af,af,af,af,af,af,⟨0,Nat.zero_le _,rfl,rfl,rfl,rfl,(af),hI.draw⟩⟩,⟨?_,?_,?_,?_,?_,?_,?_,?_,?_,?_,trivial⟩,?_⟩
   ·intro D aS  cO dq dr dn di dj dk dp dl w_
    rintro ⟨aA,az,aB,ax,aD,aC,aw,aJ,aN,aR,⟨n_,ln_,e1_,e2_,e3_,e4_,kp_,hS⟩⟩
    refine bj aP ?_
    exact ⟨fun _=>rfl,az,aB,ax,aD,aC,aw,aJ,aN,aR,⟨n_,ln_,e1_,e2_,e3_,e4_,kp_,hS⟩⟩
   ·intro D aS cA cO dq dr dn di dj dk dp dl w_
    rintro ⟨aA,az,aB,ax,aD,aC,aw,aJ,aN,aR,⟨n_,ln_,e1_,e2_,e3_,e4_,kp_,hS⟩⟩
    obtain rfl:=aA cA
    have ln2_:=KO e4_ kp_ aS
    refine eE aL ((Ho (fun h=>h.cellL (i:=0) rfl) (fun n hn h=>BN h hn) hS ln2_).trans rfl) ?_
    exact ⟨aA,fun _=>rfl,aB,ax,aD,aC,aw,aJ,aN,aR,⟨n_,ln_,e1_,e2_,e3_,e4_,(fun _=>rfl),hS⟩⟩
   ·intro D aS  cO dq dr dn di dj dk dp dl w_
    rintro ⟨aA,az,aB,ax,aD,aC,aw,aJ,aN,aR,⟨n_,ln_,e1_,e2_,e3_,e4_,kp_,hS⟩⟩
    exact ⟨aA,az,fun _=>rfl,ax,aD,aC,aw,aJ,aN,aR,⟨n_,ln_,e1_,e2_,e3_,e4_,kp_,hS⟩⟩
   ·intro D aS  cO dq dr dn di dj dk dp dl w_
    rintro ⟨aA,az,aB,ax,aD,aC,aw,aJ,aN,aR,⟨n_,ln_,e1_,e2_,e3_,e4_,kp_,hS⟩⟩
    exact ⟨aA,az,aB,fun _=>rfl,aD,aC,aw,aJ,aN,aR,⟨n_,ln_,e1_,e2_,e3_,e4_,kp_,hS⟩⟩
   ·intro D aS dh cO dq dr dn di dj dk dp dl w_
    rintro ⟨aA,az,aB,ax,aD,aC,aw,aJ,aN,aR,⟨n_,ln_,e1_,e2_,e3_,e4_,kp_,hS⟩⟩
    obtain rfl:=ax dh
    refine Dk (by omega) ?_
    exact ⟨aA,az,aB,ax,fun _=>rfl,aC,aw,aJ,aN,aR,⟨n_,ln_,e1_,e2_,e3_,e4_,kp_,hS⟩⟩
   ·intro D aS cM eD cO dq dr dn di dj dk dp dl w_
    rintro ⟨aA,az,aB,ax,aD,aC,aw,aJ,aN,aR,⟨n_,ln_,e1_,e2_,e3_,e4_,kp_,hS⟩⟩
    obtain rfl:=aB cM
    obtain rfl:=aD eD
    obtain rfl:n_=0:=K5 e1_ aS
    refine Run.callL j6 kD (L:=[.blk b5 _,a5 _ ab 4 css,B4,rdI br sl p2]) hS (ih p2 S6 (hrd.monoU hE6.1) (by omega)) rfl fun v' I' S7 w_=>?_
    rintro ⟨p3,hp3,rfl,cs,t,rfl,hcs,hwt,hot⟩ hE7 hI
    exact ⟨aA,az,aB,ax,aD,fun _=>by first|assumption|trivial,aw,aJ,aN,aR,⟨1,by decide,rfl,(by first|exact e2_|rfl),(by first|exact e3_|rfl),(by first|exact e4_|rfl),kp_,CB ⟨t,hot,hcs,hwt,hp3,hE7⟩ hcs hI⟩⟩
   ·intro D aS dT cO dq dr dn di dj dk dp dl w_
    rintro ⟨aA,az,aB,ax,aD,aC,aw,aJ,aN,aR,⟨n_,ln_,e1_,e2_,e3_,e4_,kp_,hS⟩⟩
    have zK:=aC dT
    obtain rfl:n_=1:=uv e1_ dT e2_ aS
    refine ap1 hS fun u w_ hS=>?_
    exact ⟨aA,az,aB,ax,aD,aC,fun _=>by first|assumption|trivial,aJ,aN,aR,⟨2,by decide,(by first|exact e1_|rfl),rfl,(by first|exact e3_|rfl),(by first|exact e4_|rfl),kp_,hS⟩⟩
   ·intro D aS dB iL KP cO dq dr dn di dj dk dp dl w_
    rintro ⟨aA,az,aB,ax,aD,aC,aw,aJ,aN,aR,⟨n_,ln_,e1_,e2_,e3_,e4_,kp_,hS⟩⟩
    obtain rfl:=az dB
    have Fw:=aw iL
    obtain rfl:n_=2:=uv e2_ iL e3_ aS
    refine ap2 hS (by omega) fun u w_ hS=>?_
    exact ⟨aA,az,aB,ax,aD,aC,aw,fun _=>by first|assumption|trivial,aN,aR,⟨3,by decide,(by first|exact e1_|rfl),(by first|exact e2_|rfl),rfl,(by first|exact e4_|rfl),kp_,hS⟩⟩
   ·intro D aS cA iz qD xd uq AH zT EA cO dq dr dn di dj dk dp dl w_
    rintro ⟨aA,az,aB,ax,aD,aC,aw,aJ,aN,aR,⟨n_,ln_,e1_,e2_,e3_,e4_,kp_,hS⟩⟩
    refine bj aP ?_
    exact ⟨aA,az,aB,ax,aD,aC,aw,aJ,fun _=>rfl,aR,⟨n_,ln_,e1_,e2_,e3_,e4_,kp_,hS⟩⟩
   ·intro D aS iP lP oI tP i8 uJ uE qF qJ zY jt cO dq dr dn di dj dk dp dl w_
    rintro ⟨aA,az,aB,ax,aD,aC,aw,aJ,aN,aR,⟨n_,ln_,e1_,e2_,e3_,e4_,kp_,hS⟩⟩
    obtain rfl:=aN iP
    have K0:=aJ lP
    obtain rfl:n_=3:=uv e3_ lP e4_ aS
    refine ap3 hS (by simp) fun w_ hS=>?_
    exact ⟨aA,az,aB,ax,aD,aC,aw,aJ,aN,fun _=>trivial,⟨4,by decide,(by first|exact e1_|rfl),(by first|exact e2_|rfl),(by first|exact e3_|rfl),rfl,(fun _=>i8),hS⟩⟩
   intro D jA g7 gc fj ft fL fX fM fP fY cO dq dr dn di dj dk dp dl w_
   rintro ⟨aA,az,aB,ax,aD,aC,aw,aJ,aN,aR,⟨n_,ln_,e1_,e2_,e3_,e4_,kp_,hS⟩⟩
   obtain rfl:n_=4:=KQ ln_ e4_ jA
   clear e1_ e2_ e3_ e4_
   obtain ⟨p3,S7,cs,⟨t,hot,hcs,hwt,hp3,hE7⟩,hl,hI⟩:=hS
   refine Dk (by omega) ?_
   refine ⟨⟨j',p3,S7,_,_,ts++[t],ya hou (by simp only [dA]; exact ⟨hot,trivial⟩),rfl,by rw [List.length_append]; simp only [List.length_cons,List.length_nil]; omega,(hR.monoR fun _ _ h=>RdT.mono hE7.1 h).snoc hcs hl.1,?_,?_,hE6.trans hE7,hI⟩,by simp only [intOf,Int.toNat_natCast]; omega⟩
   ·rw [lC,List.length_append,List.length_cons,List.length_nil,Nat.add_mul]
    simp only [wL]
    omega
   ·rw [List.length_append,List.length_cons,List.length_nil,Nat.add_mul]
    omega
  ·have hI:Inv w [br] ([.blk b5 (.cells #[.int .i64 3,.int .i64 0,.string s,kv] ab),B4,rdI br sl p2]++[a5 kv ab 4 css]) S6 w':=hI.last 1 rfl
   refine aO hI 0 ag rfl rfl ?_
   obtain ⟨S7,hE7,hrdr,hI⟩:=Inv.lendExt hI
   have hrs:=RowRd.rows (hR.monoR fun _ _ h=>RdT.mono hE7.1 h) hrdr
   obtain ⟨a,q,rfl,_⟩:=id hrs
   subst hB4
   refine aM hI 1 rfl ag rfl rfl (by simp [Value.oneCell']) fun w' hI=>?_
   refine bA hI 1 ag rfl rfl ?_
   refine ⟨_,_,S7,rfl,hI.pick [false,false,true],hE6.trans hE7,p2,?_,rfl,[.int .i64 3,.int .i64 0,.string s,_],.mk 3 0 s ts,rfl,RdT.iff.2 ⟨_,rfl,by simp [inI,T.kind],by simp [inI,T.n],by simp only [T.name,maxLen]; omega,hrs⟩,?_,Dh (by omega) hou⟩
   ·have:ts.length=0 ∨ ts.length=1 ∨ ts.length=2 ∨ ts.length=3:=by omega
    rcases this with h|h|h|h <;> rw [h] at hp2 hwts <;> omega
   ·simp only [wT]
    have:ts.length=0 ∨ ts.length=1 ∨ ts.length=2 ∨ ts.length=3:=by omega
    rcases this with h|h|h|h <;> rw [h] at hp2 hwts ⊢ <;> omega
theorem sy:∀ d:Nat,d<=4->GT br sl ys d
 | 0,h=>Bg h fun d' e=>by omega
 | d+1,h=>Bg h fun d' e=>by
  obtain rfl:d'=d:=by omega
  exact sy _ (by omega)
abbrev J0 (br:Nat) (sl:Value) (p k m:Nat):Value->List Item->ay->Prop:=fun v I' S'=>∃ p',p'<=p+k/\I'=[rdI br sl p']/\∃ cs t,v=.agg cs.toArray/\RdT S' cs t/\wT t<=m
theorem rc {p:Nat} {S:ay} (hrd:RdSl S 1 kR sl ys) (hp:p<=100000000):Tri Tryz.prog GG [rdP br] [rdI br sl p] S (J0 br sl p 500 500):=by
 intro w hI
 refine yi ?_
 unfold u6
 refine a9 hI bt fun b2 w' hI=>?_
 have hI:Inv w [br] [.blk b2 (.cells #[.int .i64 0,.int .i64 0,.string ⟨#[]⟩,.slice none 0 0] ab),rdI br sl p] S w':=hI.last 0 rfl
 refine zx hI (by kernel_rfl) rfl (by omega) fun v S1 w' hE1 hv hI=>?_
 refine Run.callL gd gk hI (ln (p:=p) (hrd.monoU hE1.1) hv (by decide) (by omega)) rfl fun v' I' S2 w'=>?_
 rintro ⟨rfl,rfl,n,hn,rfl⟩ _ hI
 have hn:=sD (a:=1) (b:=4) hn (by decide)
 obtain ⟨m,rfl⟩:∃ m:Nat,n=m:=⟨n.toNat,by rw [Int.toNat_of_nonneg (by omega)]⟩
 have h3:dW m<=486:=by
  have:3 ^ m<=3 ^ 4:=Nat.pow_le_pow_right (by omega) (by omega)
  simp only [dW]; omega
 refine Run.callL j6 kD hI (sy m (by omega) (p+1) S2 (hrd.monoU hE1.1) (by omega)) rfl fun v' I' S3 w'=>?_
 rintro ⟨p1,hp1,rfl,cs,t,rfl,hcs,hw,_⟩ hE3 hI
 refine aM hI 0 rfl ag (by simpa using hcs.length) rfl (by simpa using hcs.one) fun w' hI=>?_
 refine bA hI 0 ag rfl (by simpa using hcs.length) ?_
 exact ⟨_,_,S3,rfl,hI.pick [false,true],hE1.trans hE3,p1,by omega,rfl,cs,t,rfl,hcs,by omega⟩
end
end Go.Proofs.YtnmnddpdikghhaaGreat
