/- Clauses and programs read: spec.l4Text, FormatClause, l4Goals, ParseClause, l18Cut, ParseProgram. -/
import Derived.Test.YtemmhhdnlbmicaaGreatZMe5
import Derived.Test.YtemmhhdnlbmicaaGreatZMe1
import Derived.Test.YtemmhhdnlbmicaaGreatZMe2
namespace Go.Proofs.YtemmhhdnlbmicaaGreat
open Go Go.RowKit
theorem uZ:∀ (f:Nat) (l:List T) (b:Bool) (out x:Bs),vr f l b out=some x->out.length<=x.length
 | _,[],_,out,x,h=>by simp only [vr,Option.some.injEq] at h; subst h; exact Nat.le_refl _
 | f,t::l,b,out,x,h=>by
  rw [vr] at h
  split at h
  ·cases h
  ·have:=uZ f _ _ _ _ h
   simp only [List.length_append] at this
   omega
section
variable {w0 w:World} {X:List Nat} {L:List Item} {S:aF} {P:Program} {K:Value->World->Prop}
attribute [local irreducible] Run CondV ah be
theorem GF (h:Inv w0 X L S w) {T ty e:TypeId} {by_:Nat} {z v x:Value} {cs:List Bool} {css:List (List Value)} (i:Nat)
  (hT:nO P T=some (e,1,by_,z)) (hi:L[i]?=some (bh v e 1 css)) (hx:x.cells=#[x]) (h1:x.oneCell'=true) (hfit:css.length+1<=4294967296) (hby:by_<=32768)
  (hk:∀ v' w',Inv w0 X (L.set i (bh v' e 1 (css++[[x]]))) S w'->K v' w') :
  Run P (aS T 1 [(0,x)]) w fun u w'=>Run P (aq .append #[T,T] ty cs [v,u]) w' K:=by
 refine eN h hT (by rw [hx]; rfl) (by omega) (by omega) fun b w' hI=>?_
 have hil:i<L.length:=(List.getElem?_eq_some_iff.1 hi).1
 refine fy hI i [x] hT (by omega) (by rw [List.getElem?_append_left hil]; exact hi) (by simp) (m:=1) (o:=0) ?_ (by simpa using h1) hfit hby fun v' w' hI=>?_
 ·intro j u hj
  rw [hI.cellL (i:=L.length) (by rw [List.getElem?_append_right (Nat.le_refl _),Nat.sub_self]; rfl)]
  rw [Nat.zero_add,hx]
  simpa using hj
 ·refine hk _ _ ?_
  rw [<- fS]
  rw [List.set_append_left _ _ hil] at hI
  exact hI.sub (List.sublist_append_left _ _)
end
section
variable {S:aF}
attribute [local irreducible] Run CondV ah be
theorem DH {f:Nat} (hf:f<=100) {c:C} {cs:List Value} {x:Bs} (h:RdC S cs c) (hx:Je f c=some x) (hl:x.length<=1000000):Pure Tryz.prog Hx [.agg cs.toArray] S (.string (st x)):=by
 intro w hI
 obtain ⟨hd,ks,rfl,h1,h2⟩:=h
 have h1':=h1
 obtain ⟨kv,rfl,_⟩:=RdT.iff.1 h1
 unfold Je at hx
 split at hx
 ·cases hx
 rename_i y hy
 split at hx
 ·cases hx
 rename_i z hz
 simp only [Option.some.injEq] at hx
 have hzx:z.length+1=x.length:=by rw [<- hx,List.length_append]; rfl
 have hyz:=uZ _ _ _ _ _ hz
 have hb:c.body.length<=9223372036854775807:=by have:=h2.le; simpa [maxLen] using this
 refine yO ?_
 unfold vH
 refine bQ hI fun b1 w' hI=>?_
 have hI:Inv w [] [.blk b1 (.cells #[.int .i64 c.head.kind,.int .i64 c.head.n,.string c.head.name,kv,ks] aQ)] S w':=hI
 refine bi df ?_
 refine fe hI 0 [.int .i64 c.head.kind,.int .i64 c.head.n,.string c.head.name,kv] ao rfl rfl K0 ?_
 refine Run.callPure gd f3 hI (B0 hf _ y S _ hy (by omega) h1') fun w' hI=>?_
 refine ⟨fun a b w'=>∃ (j:Nat) (out:Bs),j<=c.body.length/\a=.int .i64 (j:Int)/\b=.string (st out)/\vr f (c.body.drop j) (decide (j=0)) out=some z/\Inv w [] [.blk b1 (.cells #[.int .i64 c.head.kind,.int .i64 c.head.n,.string c.head.name,kv,ks] aQ)] S w',
  fun a _ _=>c.body.length - (intOf a).toNat,⟨0,y,Nat.zero_le _,rfl,rfl,hz,hI⟩,?_⟩
 intro t4 _ _ _ _ _ _ _ _ _ _ _ _ t3 _ _ _ _ _ _ _ _ _ w'
 rintro ⟨j,out,hj,rfl,rfl,hbf,hI⟩
 refine aI hI 0 rfl bq aR rfl ?_
 refine a9 h2 ay ?_
 refine bW ?_
 refine bl (fun hji=>?_) (fun hji=>?_)
 ·have hj':j<c.body.length:=by omega
  rw [List.drop_eq_getElem_cons hj',vr] at hbf
  split at hbf
  ·cases hbf
  rename_i u hu
  have hlen:=uZ _ _ _ _ _ hbf
  simp only [List.length_append] at hlen
  obtain ⟨pre,hpre⟩:∃ pre:Bs,pre=if decide (j=0)=true then [58,45] else [44]:=⟨_,rfl⟩
  rw [<- hpre] at hbf hlen
  refine ⟨fun b w'=>b=.string (st (out++pre))/\Inv w [] [.blk b1 (.cells #[.int .i64 c.head.kind,.int .i64 c.head.n,.string c.head.name,kv,ks] aQ)] S w',?_,?_⟩
  ·refine bR ?_
   refine bl (fun h0=>?_) (fun h0=>?_)
   ·rw [if_pos (decide_eq_true (by omega))] at hpre
    subst hpre
    refine d3 (b:=[58,45]) (by omega) ?_
    exact ⟨rfl,hI⟩
   ·rw [if_neg (by rw [decide_eq_true_eq]; omega)] at hpre
    subst hpre
    refine d3 (b:=[44]) (by omega) ?_
    exact ⟨rfl,hI⟩
  intro _ _ t3 _ _ _ _ w'
  rintro ⟨rfl,hI⟩
  refine aI hI 0 rfl bq aR rfl ?_
  refine dZ hI h2 ay ao hj' (fun _ _=>RdT.length) fun es hes=>?_
  refine Run.callPure gd f3 hI (B0 hf _ u S _ hu (by omega) hes) fun w' hI=>?_
  refine d3 (by rw [List.length_append]; omega) ?_
  refine bN (by omega) ?_
  refine ⟨⟨j+1,out++pre++u,hj',rfl,rfl,?_,hI⟩,by simp only [intOf,Int.toNat_natCast]; omega⟩
  rw [decide_eq_false (by omega)]
  exact hbf
 ·have:j=c.body.length:=by omega
  subst this
  rw [List.drop_length,vr] at hbf
  simp only [Option.some.injEq] at hbf
  subst hbf
  refine d3 (b:=[46]) (by simp only [List.length_cons,List.length_nil]; omega) ?_
  exact done hI (by rw [<- hx])
theorem qk {f:Nat} (hf:f<=100) {c:C} {cs:List Value} {x:Bs} (h:RdC S cs c) (hc:dC c=true) (hw:wC c<=1048576) (hx:Je f c=some x) (hl:x.length<=1000000):Pure Tryz.prog tA [.agg cs.toArray] S (.string (st x)):=by
 intro w hI
 have h0:=h
 obtain ⟨hd,ks,rfl,h1,h2⟩:=h
 obtain ⟨kv,rfl,_⟩:=RdT.iff.1 h1
 refine oy ?_
 unfold j4
 refine bQ hI fun b1 w' hI=>?_
 refine bb hI 0 bM rfl rfl ?_
 refine Run.callPure lE lg hI (jN h0 hw) fun w' hI=>?_
 refine dh ?_
 rw [hc]
 refine ba (fun hb=>by cases hb) (fun _=>?_)
 refine bb hI 0 bM rfl rfl ?_
 refine Run.callPure Gh Gd hI (DH hf h0 hx hl) fun w' hI=>?_
 exact done hI rfl
theorem Br {f k:Nat} {s:Bs} {i:Nat} {ts:List T} {n:Nat} (h:qQ f k s i []=some (ts,n)) (hs:s.length<=100000) (hi:i<=s.length):Tri Tryz.prog EK [.string (st s),.int .i64 (i:Int)] [] S (Me ts n):=by
 intro w hI
 refine wR ?_
 unfold sD
 refine eO hI bK fun v0 w' hI=>?_
 refine ⟨fun a b w'=>∃ (k' i':Nat) (acc:List T) (S1:aF) (css:List (List Value)),a=.int .i64 (i':Int)/\i'<=s.length/\qQ f k' s i' acc=some (ts,n)/\Ext w.heap.size [] S S1/\Rows 4 (RdT S1) css acc/\(∃ p m,b=.slice p acc.length m)/\Inv w [] [bh b ab 4 css] S1 w',
  fun a _ _=>s.length+1 - (intOf a).toNat,⟨k,i,[],S,[],rfl,hi,h,Ext.refl _ _ _,Rows.nil _ _,?_,hI⟩,?_⟩
 ·have hI2:Inv w [] ([]++[bh v0 ab 4 []]) S w':=hI
  obtain ⟨S1,_,hrd,_⟩:=Inv.lendExt hI2
  obtain ⟨p,m,e,_⟩:=RowRd.rows (Rows.nil 4 (RdT S)) hrd
  exact ⟨p,m,e⟩
 intro t1 _ _ _ _ _ _ _ _ t6 _ _ _ _ _ _ _ _ _ _ _ _ _ _ _ _ _ _ _ w'
 rintro ⟨k',i',acc,S1,css,rfl,hi2,hT,hE,hR,⟨p,m,rfl⟩,hI⟩
 have hcl:=hR.hc
 cases k' with
 | zero=>simp [qQ] at hT
 | succ g=>
 rw [qQ] at hT
 split at hT
 ·cases hT
 rename_i h6
 split at hT
 ·cases hT
 rename_i t n' hr
 have hle:=(gH f).1 _ _ _ _ _ _ hr
 refine ge ay ?_
 refine Ds (by omega) ?_
 refine ba (fun _=>?_) (fun hb=>by cases hb)
 refine Run.call0E gk gn hI (Cr f s i' 30 3 t n' S1 hr hs hi2 (by omega) (by omega)) fun v I' S2 w'=>?_
 rintro ⟨rfl,cs,rfl,hcs⟩ hE2 hI
 have hR2:=hR.monoR fun _ _ h=>RdT.mono hE2.1 h
 obtain ⟨kv,rfl,_,_,_,a,q,rfl,_⟩:=RdT.iff.1 hcs
 refine bd (v:=.agg _) rfl ?_
 refine bd (v:=.int .i64 (n':Int)) rfl ?_
 refine bH hI bL fun b13 w' hI=>?_
 refine bg hI 1 rfl ao rfl rfl (by simp [Value.oneCell']) fun w' hI=>?_
 refine fi (by omega) ?_
 refine ba (fun hb=>by cases hb) (fun _=>?_)
 refine bb hI 1 ao rfl rfl ?_
 refine gt (css:=css) hI 0 _ bK (by omega) (by omega) rfl hcs.length hcs.one (by omega) (by omega) fun v' w' hI=>?_
 have hI:Inv w [] [bh v' ab 4 (css++[[.int .i64 t.kind,.int .i64 t.n,.string t.name,.slice a t.kids.length q]])] S2 w':=hI.pick [true,false]
 have hR3:=hR2.snoc hcs hcs.length
 have hI2:Inv w [] ([]++[bh v' ab 4 (css++[[.int .i64 t.kind,.int .i64 t.n,.string t.name,.slice a t.kids.length q]])]) S2 w':=hI
 obtain ⟨S3,hE3,hrd,hI3⟩:=Inv.lendExt hI2
 have hrs:=RowRd.rows (hR3.monoR fun _ _ h=>RdT.mono hE3.1 h) hrd
 refine Run.callPure dz dA hI (dd s n' 44 S2) fun w' hI=>?_
 refine dh ?_
 split at hT
 ·rename_i h44
  rw [h44]
  refine ba (fun hb=>by cases hb) (fun _=>?_)
  have:=gU h44
  refine fj (a:=n') (b:=1) rfl rfl (by omega) ?_
  obtain ⟨p',m',e',_⟩:=hrs
  refine ⟨⟨g,n'+1,acc++[t],S2,_,rfl,by omega,hT,hE.trans hE2,hR3,⟨p',m',e'⟩,hI⟩,?_⟩
  simp only [intOf,Int.toNat_natCast]
  omega
 ·rename_i h44
  rw [Bool.eq_false_iff.2 h44]
  refine ba (fun _=>?_) (fun hb=>by cases hb)
  simp only [Option.some.injEq,Prod.mk.injEq] at hT
  obtain ⟨rfl,rfl⟩:=hT
  have hI2:Inv w [] ([]++[bh v' ab 4 (css++[[.int .i64 t.kind,.int .i64 t.n,.string t.name,.slice a t.kids.length q]])]) S2 w':=hI
  obtain ⟨S4,hE4,hrd,hI⟩:=Inv.lendExt hI2
  have hrs:=RowRd.rows (hR3.monoR fun _ _ h=>RdT.mono hE4.1 h) hrd
  exact ⟨_,[],S4,rfl,hI,(hE.trans hE2).trans hE4,rfl,_,rfl,hrs⟩
abbrev Nu (c:C) (b:Bool):Value->List Item->aF->Prop:=fun v I' S'=>I'=[]/\∃ cs,v=.tuple #[.agg cs.toArray,.bool b]/\RdC S' cs c
theorem sf {f:Nat} (hf:f<=100) {s:Bs} {c:C} (h:rW f s=some c):Tri Tryz.prog xh [.string (st s)] [] S (Nu c true):=by
 intro w hI
 refine po ?_
 unfold lU;dsimp only
 unfold rW at h
 split at h
 ·cases h
 rename_i hs
 split at h
 ·cases h
 rename_i hd n hr
 have hle:=(gH f).1 _ _ _ _ _ _ hr
 have hfin:∃ b n2,c=⟨hd,b⟩/\JY f s c n2=some c/\((sgn s n 58=true/\sgn s (n+1) 45=true/\qQ f 8 s (n+2) []=some (b,n2)) ∨ (¬ (sgn s n 58=true/\sgn s (n+1) 45=true)/\b=[]/\n2=n)):=by
  have hcc:∀ (c':C) (m:Nat),JY f s c' m=some c->c'=c:=fun c' m h=>by
   unfold JY at h
   split at h
   ·exact Option.some.inj h
   ·cases h
  split at h
  ·rename_i h58
   split at h
   ·cases h
   rename_i b n2 hg
   have e:=hcc _ _ h
   subst e
   exact ⟨b,n2,rfl,h,.inl ⟨h58.1,h58.2,hg⟩⟩
  ·rename_i h58
   have e:=hcc _ _ h
   subst e
   exact ⟨[],n,rfl,h,.inr ⟨h58,rfl,rfl⟩⟩
 clear h
 obtain ⟨b,n2,rfl,hfin,hcase⟩:=hfin
 unfold JY at hfin
 split at hfin
 case isFalse=>cases hfin
 rename_i hq
 obtain ⟨hq1,hq2,hq3,hq4,hq5⟩:=hq
 clear hfin
 refine bH hI fh fun b2 w' hI=>?_
 refine fP bj ?_
 refine kW (by omega) ?_
 refine ba (fun hb=>by cases hb) (fun _=>?_)
 refine Run.call0E gk gn hI (Cr f s 0 30 3 hd n S hr (by omega) (by omega) (by omega) (by omega)) fun v I' S1 w'=>?_
 rintro ⟨rfl,cs,rfl,hcs⟩ hE1 hI
 obtain ⟨kv,rfl,_,_,_,a,q,rfl,_⟩:=RdT.iff.1 hcs
 refine bd (v:=.agg _) rfl ?_
 refine bd (v:=.int .i64 (n:Int)) rfl ?_
 refine bH hI bL fun b4 w' hI=>?_
 refine bg hI 1 rfl ao rfl rfl (by simp [Value.oneCell']) fun w' hI=>?_
 refine fi (by omega) ?_
 refine ba (fun hb=>by cases hb) (fun _=>?_)
 refine bb hI 1 ao rfl rfl ?_
 refine iF ?_
 refine bH hI fh fun b6 w' hI=>?_
 refine bg hI 2 rfl bM rfl rfl (by simp [Value.oneCell']) fun w' hI=>?_
 obtain ⟨B2,hB2⟩:∃ B2,B2=Item.blk b2 (.cells #[.int .i64 0,.int .i64 0,.string ⟨#[]⟩,.slice none 0 0,.slice none 0 0] aQ):=⟨_,rfl⟩
 obtain ⟨B4,hB4⟩:∃ B4,B4=Item.blk b4 (.cells #[.int .i64 hd.kind,.int .i64 hd.n,.string hd.name,.slice a hd.kids.length q] ab):=⟨_,rfl⟩
 have hI:Inv w [] [B2,B4,.blk b6 (.cells #[.int .i64 hd.kind,.int .i64 hd.n,.string hd.name,.slice a hd.kids.length q,.slice none 0 0] aQ)] S1 w':=by rw [hB2,hB4]; exact hI
 refine ⟨fun v w'=>∃ (kb:Value) (S2:aF),v=.int .i64 (n2:Int)/\Ext w.heap.size [] S S2/\RdT S2 [.int .i64 hd.kind,.int .i64 hd.n,.string hd.name,.slice a hd.kids.length q] hd/\RdSl S2 4 (RdT S2) kb b/\
   Inv w [] [B2,B4,.blk b6 (.cells #[.int .i64 hd.kind,.int .i64 hd.n,.string hd.name,.slice a hd.kids.length q,kb] aQ)] S2 w',?_,?_⟩
 ·refine ⟨fun v w'=>v=.bool (sgn s n 58 && sgn s (n+1) 45)/\Inv w [] [B2,B4,.blk b6 (.cells #[.int .i64 hd.kind,.int .i64 hd.n,.string hd.name,.slice a hd.kids.length q,.slice none 0 0] aQ)] S1 w',?_,?_⟩
  ·refine Run.callPure dz dA hI (dd s n 58 S1) fun w' hI=>?_
   cases h58:sgn s n 58
   ·repeat (first|refine ad ?_|refine af (by decide) ?_|refine ac ?_|refine al ?_|refine aj ?_)
    exact ⟨by rw [Bool.false_and],hI⟩
   ·repeat (first|refine ad ?_|refine af (by decide) ?_|refine ac ?_|refine al ?_|refine aj ?_)
    refine fj (a:=n) (b:=1) rfl rfl (by omega) ?_
    refine Run.callPure dz dA hI (dd s (n+1) 45 S1) fun w' hI=>?_
    repeat (first|refine ad ?_|refine af (by decide) ?_|refine ac ?_|refine al ?_|refine aj ?_)
    exact ⟨by rw [Bool.true_and],hI⟩
  intro t29 _ _ _ _ _ _ _ _ w'
  rintro ⟨rfl,hI⟩
  rcases hcase with ⟨h1,h2,hg⟩|⟨h1,rfl,rfl⟩
  ·rw [h1,h2]
   refine ba (fun _=>?_) (fun hb=>by cases hb)
   have h3:=gU h2
   refine fj (a:=n) (b:=2) rfl rfl (by omega) ?_
   refine Run.call0E DN C1 hI (Br hg (by omega) (by omega)) fun v I' S2 w'=>?_
   rintro ⟨rfl,u,rfl,hu⟩ hE2 hI
   obtain ⟨p,m,rfl,_⟩:=id hu
   refine bd (v:=.slice p b.length m) rfl ?_
   refine bd (v:=.int .i64 (n2:Int)) rfl ?_
   refine ji hI 2 rfl bq aR rfl rfl rfl fun w' hI=>?_
   exact ⟨_,S2,rfl,hE1.trans hE2,RdT.mono hE2.1 hcs,hu,hI⟩
  ·have e:(sgn s n2 58 && sgn s (n2+1) 45)=false:=by
    rw [Bool.eq_false_iff,ne_eq,Bool.and_eq_true]; exact h1
   rw [e]
   refine ba (fun hb=>by cases hb) (fun _=>?_)
   exact ⟨_,S1,rfl,hE1,hcs,ja S1,hI⟩
 intro t5 _ _ _ _ _ _ _ _ _ _ _ _ _ _ _ _ _ w'
 rintro ⟨kb,S2,rfl,hE2,hhd,hb,hI⟩
 have hC:RdC S2 [.int .i64 hd.kind,.int .i64 hd.n,.string hd.name,.slice a hd.kids.length q,kb] ⟨hd,b⟩:=⟨[.int .i64 hd.kind,.int .i64 hd.n,.string hd.name,.slice a hd.kids.length q],kb,rfl,hhd,hb⟩
 refine ⟨fun v w'=>v=.bool false/\Inv w [] [B2,B4,.blk b6 (.cells #[.int .i64 hd.kind,.int .i64 hd.n,.string hd.name,.slice a hd.kids.length q,kb] aQ)] S2 w',?_,?_⟩
 ·refine fP bj ?_
  refine pO (by omega) ?_
  refine gh ?_
  rw [decide_eq_true (show (n2:Int)=(s.length:Int) - 1 by omega)]
  refine ad (b:=false) ?_
  refine Run.callPure dz dA hI (dd s n2 46 S2) fun w' hI=>?_
  refine dh ?_
  rw [hq2]
  refine aj ?_
  refine ad (b:=false) ?_
  refine bb hI 2 bM rfl rfl ?_
  refine Run.callPure rY rQ hI (qk hf hC hq3 (by omega) hq5 (by omega)) fun w' hI=>?_
  refine ID ?_
  rw [decide_eq_true rfl]
  refine aj ?_
  exact ⟨rfl,hI⟩
 intro t54 _ _ _ _ _ _ _ _ _ _ _ _ _ _ _ _ w'
 rintro ⟨rfl,hI⟩
 refine ba (fun hb=>by cases hb) (fun _=>?_)
 refine bb hI 2 bM rfl rfl ?_
 refine Run.call0E vA vR hI (DL hC (by omega)) fun v I' S3 w'=>?_
 rintro ⟨rfl,ds,M,rfl,rfl,hT⟩ hE3 hI
 obtain ⟨S4,hI,hE4,hins⟩:=hI.pubExt
 have hR4:=hT.rd hins
 have hl5:=hR4.length
 have h15:=hT.one
 subst hB2
 refine bg hI 0 rfl bM (by simpa using hl5) rfl (by simpa using h15) fun w' hI=>?_
 refine cG hI 0 bM rfl (by simpa using hl5) ?_
 exact ⟨_,[],S4,rfl,hI.nil,(hE2.trans hE3).trans hE4,rfl,_,rfl,hR4⟩
def Mo (cs:List Value) (l:Bs):Prop:=cs=[.string (st l)]
theorem DF (s:Bs) (c:Nat) (hs:s.length<=100000):Tri Tryz.prog Hy [.string (st s),.int .u8 (c:Int)] [] S fun v I' S'=>I'=[]/\RdSl S' 1 Mo v (AV s c s.length 0 0 []):=by
 intro w hI
 refine z0 ?_
 unfold vF
 refine eO hI yi fun v0 w' hI=>?_
 obtain ⟨R,hR⟩:∃ R,R=AV s c s.length 0 0 []:=⟨_,rfl⟩
 rw [<- hR]
 refine ⟨fun t u v w'=>∃ (i fr:Nat) (acc:List Bs) (css:List (List Value)),t=.int .i64 (i:Int)/\u=.int .i64 (fr:Int)/\acc.length<=i/\((i<=s.length/\fr<=i/\AV s c (s.length - i) i fr acc=R) ∨ (i=s.length+1/\acc=R))/\Rows 1 Mo css acc/\Inv w [] [bh v iA 1 css] S w',
  fun t _ _ _=>s.length+2 - (intOf t).toNat,⟨0,0,[],[],rfl,rfl,Nat.le_refl _,.inl ⟨Nat.zero_le _,Nat.le_refl _,hR.symm⟩,Rows.nil _ _,hI⟩,?_⟩
 intro t7 _ _ t6 _ _ t5 _ _ _ _ _ _ _ _ _ _ _ _ _ _ _ _ _ _ _ _ _ _ w'
 rintro ⟨i,fr,acc,css,rfl,rfl,hal,hc,hRw,hI⟩
 have hcl:=hRw.hc
 refine fP bj ?_
 refine fX ?_
 refine bl (fun hi=>?_) (fun hi=>?_)
 ·have hi':i<=s.length:=by omega
  obtain ⟨_,hfr,hcut⟩:i<=s.length/\fr<=i/\AV s c (s.length - i) i fr acc=R:=by
   rcases hc with h|h
   ·exact h
   ·omega
  obtain ⟨br,hbr⟩:∃ br,br=(decide (i=s.length) || sgn s i c):=⟨_,rfl⟩
  refine ⟨fun u v w'=>∃ (fr':Nat) (acc':List Bs) (css':List (List Value)),u=.int .i64 (fr':Int)/\acc'.length<=i+1/\fr'<=i+1/\acc'=(if br=true then acc++[cut s fr i] else acc)/\fr'=(if br=true then i+1 else fr)/\Rows 1 Mo css' acc'/\Inv w [] [bh v iA 1 css'] S w',?_,?_⟩
  ·refine ⟨fun b w'=>b=.bool br/\Inv w [] [bh t5 iA 1 css] S w',?_,?_⟩
   ·refine fP bj ?_
    by_cases he:i=s.length
    ·refine fW (by omega) ?_
     repeat (first|refine ad ?_|refine af (by decide) ?_|refine ac ?_|refine al ?_|refine aj ?_)
     exact ⟨by rw [hbr,decide_eq_true he,Bool.true_or],hI⟩
    ·refine eY (by omega) ?_
     repeat (first|refine ad ?_|refine af (by decide) ?_|refine ac ?_|refine al ?_|refine aj ?_)
     have hlt:i<s.length:=by omega
     refine eM bj hlt ?_
     refine bR ?_
     repeat (first|refine ad ?_|refine af (by decide) ?_|refine ac ?_|refine al ?_|refine aj ?_)
     refine ⟨?_,hI⟩
     rw [hbr,decide_eq_false he,Bool.false_or,jC hlt]
     congr 1
     rw [decide_eq_decide]
     omega
   intro t25 _ _ _ _ _ _ _ _ _ _ w'
   rintro ⟨rfl,hI⟩
   refine ba (fun hb=>?_) (fun hb=>?_)
   ·refine y3 bj hfr hi' ?_
    refine GF (css:=css) hI 0 yi rfl rfl rfl (by omega) (by omega) fun v' w' hI=>?_
    refine fj (a:=i) (b:=1) rfl rfl (by omega) ?_
    refine ⟨i+1,acc++[cut s fr i],_,rfl,by rw [List.length_append]; simp only [List.length_cons,List.length_nil]; omega,Nat.le_refl _,by rw [if_pos hb],by rw [if_pos hb],hRw.snoc rfl rfl,hI⟩
   ·exact ⟨fr,acc,css,rfl,by omega,by omega,by rw [if_neg (by rw [hb]; decide)],by rw [if_neg (by rw [hb]; decide)],hRw,hI⟩
  intro t6 _ _ t5 _ _ _ _ _ _ _ _ _ _ _ _ _ _ _ _ _ _ w'
  rintro ⟨fr',acc',css',rfl,hal',hfr',hacc',hfe,hRw',hI⟩
  refine fj (a:=i) (b:=1) rfl rfl (by omega) ?_
  refine ⟨⟨i+1,fr',acc',css',rfl,rfl,hal',?_,hRw',hI⟩,by simp only [intOf,Int.toNat_natCast]; omega⟩
  by_cases he:i=s.length
  ·right
   refine ⟨by rw [he],?_⟩
   rw [he,Nat.sub_self,AV,<- he] at hcut
   rw [hacc',if_pos (by rw [hbr,decide_eq_true he,Bool.true_or])]
   exact hcut
  ·left
   refine ⟨by omega,hfr',?_⟩
   rw [show s.length - i=(s.length - (i+1))+1 by omega,AV] at hcut
   rw [hbr,decide_eq_false he,Bool.false_or] at hacc' hfe
   split at hcut
   ·rename_i hsg
    rw [if_pos hsg] at hacc' hfe
    rw [hacc',hfe]
    exact hcut
   ·rename_i hsg
    rw [if_neg hsg] at hacc' hfe
    rw [hacc',hfe]
    exact hcut
 ·obtain ⟨_,rfl⟩:i=s.length+1/\acc=R:=by
   rcases hc with h|h
   ·omega
   ·exact h
  have hI2:Inv w [] ([]++[bh t5 iA 1 css]) S w':=hI
  obtain ⟨S1,hE1,hrd,hI⟩:=Inv.lendExt hI2
  exact ⟨_,[],S1,rfl,hI,hE1,rfl,RowRd.rows hRw hrd⟩
theorem Bh {f:Nat} {ls:List Bs} {i:Nat} (h:i<ls.length) (acc:List C):jO f (ls.drop i) acc=match rW f ls[i] with
  | none=>none
  | some c=>jO f (ls.drop (i+1)) (acc++[c]):=by
 rw [List.drop_eq_getElem_cons h,jO]
 cases rW f ls[i] <;> rfl
theorem qA {f:Nat} (hf:f<=100) {s:Bs} {p:List C} (h:IK f s=some p) (hs:s.length<=100000):Tri Tryz.prog lR [.string (st s)] [] S fun v I' S'=>∃ u css,v=.tuple #[u,.bool true]/\I'=[bh u aQ 5 css]/\Rows 5 (RdC S') css p:=by
 intro w hI
 refine oF ?_
 unfold kj
 unfold IK Lp at h
 refine eO hI fb fun v0 w' hI=>?_
 refine Run.call0E FM Gs hI (DF s 10 hs) fun v I' S1 w'=>?_
 rintro ⟨rfl,hls⟩ hE1 hI
 have hI:Inv w [] [bh v0 aQ 5 []] S1 w':=hI
 obtain ⟨ls,hlsd⟩:∃ ls,ls=AV s 10 s.length 0 0 []:=⟨_,rfl⟩
 rw [<- hlsd] at hls h
 simp only [] at h
 split at h
 ·cases h
 rename_i hc
 simp only [not_or,ne_eq,Classical.not_not] at hc
 obtain ⟨hc1,hc2⟩:=hc
 have hl0:0<ls.length:=by
  cases ls with
  | nil=>simp at hc2
  | cons a l=>simp
 have hlast:ls[ls.length - 1]=[]:=by
  rw [List.getLast?_eq_getElem?,List.getElem?_eq_getElem (by omega)] at hc2
  exact Option.some.inj hc2
 refine ⟨fun b w'=>b=.bool false/\Inv w [] [bh v0 aQ 5 []] S1 w',?_,?_⟩
 ·refine a9 hls cR ?_
  refine kW (by omega) ?_
  repeat (first|refine ad ?_|refine af (by decide) ?_|refine ac ?_|refine al ?_|refine aj ?_)
  refine a9 hls cR ?_
  refine y7 (a:=ls.length) (b:=1) rfl rfl (by omega) (by omega) ?_
  have hlt:ls.length - 1<ls.length:=by omega
  obtain ⟨b,o,cap,c,E,fz,hv,hS,hR⟩:=hls.at_ hlt
  subst hv
  refine bk cR hlt ?_
  refine dY bm ((hI.cellS hS).trans (bn hR 0 _ rfl)) ?_
  refine ID (b:=[]) ?_
  rw [decide_eq_true hlast]
  repeat (first|refine ad ?_|refine af (by decide) ?_|refine ac ?_|refine al ?_|refine aj ?_)
  exact ⟨rfl,hI⟩
 intro t23 _ _ _ _ _ _ _ _ _ _ _ w'
 rintro ⟨rfl,hI⟩
 refine ba (fun hb=>by cases hb) (fun _=>?_)
 refine ⟨fun a b w'=>∃ (i:Nat) (acc:List C) (S2:aF) (css:List (List Value)),a=.int .i64 (i:Int)/\i+1<=ls.length/\acc.length=i/\jO f (ls.dropLast.drop i) acc=some p/\Sle S1 S2/\Ext w.heap.size [] S S2/\Rows 5 (RdC S2) css acc/\Inv w [] [bh b aQ 5 css] S2 w',
  fun a _ _=>ls.length - (intOf a).toNat,⟨0,[],S1,[],rfl,by omega,rfl,h,Sle.refl _,hE1,Rows.nil _ _,hI⟩,?_⟩
 intro t6 _ _ t4 _ _ _ _ _ _ _ _ _ _ _ _ _ _ _ _ _ _ _ _ _ _ _ _ w'
 rintro ⟨i,acc,S2,css,rfl,hi,hal,hcl,hle2,hE2,hR,hI⟩
 have hcs:=hR.hc
 refine fj (a:=i) (b:=1) rfl rfl (by omega) ?_
 refine a9 hls cR ?_
 refine bW ?_
 have hdl:ls.dropLast.length=ls.length - 1:=List.length_dropLast
 refine bl (fun hlt=>?_) (fun hge=>?_)
 ·have hi':i<ls.length:=by omega
  have hi2:i<ls.dropLast.length:=by omega
  rw [Bh hi2] at hcl
  have eg:ls.dropLast[i]=ls[i]:=List.getElem_dropLast _
  rw [eg] at hcl
  obtain ⟨b,o,cap,c,E,fz,hv,hS,hRr⟩:=hls.at_ hi'
  subst hv
  split at hcl
  ·cases hcl
  rename_i cl hclf
  refine bk cR hi' ?_
  refine dY bm ((hI.cellS (hle2 _ _ hS)).trans (bn hRr 0 _ rfl)) ?_
  refine Run.call0E uL tz hI (sf hf hclf) fun v I' S3 w'=>?_
  rintro ⟨rfl,ds,rfl,hds⟩ hE3 hI
  have hl5:=hds.length
  have hR3:=hR.monoR fun _ _ h=>RdC.mono hE3.1 h
  refine bd (v:=.agg ds.toArray) rfl ?_
  refine bd (v:=.bool true) rfl ?_
  refine bH hI fh fun b7 w' hI=>?_
  refine bg hI 1 rfl bM (by simpa using hl5) rfl (by simpa using hds.one) fun w' hI=>?_
  refine dh ?_
  refine ba (fun hb=>by cases hb) (fun _=>?_)
  refine bb hI 1 bM rfl (by simpa using hl5) ?_
  refine gt (css:=css) hI 0 _ fb (by omega) (by omega) rfl hl5 hds.one (by omega) (by omega) fun v' w' hI=>?_
  have hI:Inv w [] [bh v' aQ 5 (css++[ds])] S3 w':=hI.pick [true,false]
  refine fj (a:=i) (b:=1) rfl rfl (by omega) ?_
  exact ⟨⟨i+1,acc++[cl],S3,_,rfl,by omega,by rw [List.length_append,hal]; rfl,hcl,hle2.trans hE3.1,hE2.trans hE3,hR3.snoc hds hl5,hI⟩,by simp only [intOf,Int.toNat_natCast]; omega⟩
 ·have hi2:ls.dropLast.length<=i:=by omega
  rw [List.drop_eq_nil_of_le hi2,jO] at hcl
  simp only [Option.some.injEq] at hcl
  subst hcl
  exact ⟨_,_,S2,rfl,hI,hE2,_,css,rfl,rfl,hR⟩
end
end Go.Proofs.YtemmhhdnlbmicaaGreat

/- Whether terms are the same: both sides. -/
namespace Go.Proofs.YtemmhhdnlbmicaaGreat
open Go Go.RowKit
attribute [local irreducible] Run CondV ah be

def lk (t u:T):Bool:=decide (t.kind=u.kind) && (decide (t.n=u.n) && (decide (t.name=u.name) && decide (t.kids.length=u.kids.length)))
theorem fq (k n k' n':Int) (s s':ByteArray) (ks ks':List T):lk (.mk k n s ks) (.mk k' n' s' ks')=(decide (k=k') && (decide (n=n') && (decide (s=s') && decide (ks.length=ks'.length)))):=rfl
theorem Ll {α β:Type} (a:List α) (b:List β):decide (a.length=b.length)=decide ((a.length:Int)=(b.length:Int)):=by
 rw [Bool.eq_iff_iff]
 simp only [decide_eq_true_eq]
 omega
theorem Mu (t u:T):eqT t u=(lk t u && eqL t.kids u.kids):=by
 obtain ⟨k,n,s,ks⟩:=t
 obtain ⟨k',n',s',ks'⟩:=u
 rw [eqT,fq]
 by_cases h:ks.length=ks'.length
 ·rw [decide_eq_true h,Bool.and_true,Bool.and_assoc,Bool.and_assoc]; rfl
 ·rw [IR h,decide_eq_false h]; simp
theorem lQ:∀ (t u:T) (S:aF) (cs ds:List Value),RdT S cs t->RdT S ds u->Pure Tryz.prog Dg [.agg cs.toArray,.agg ds.toArray] S (.bool (eqT t u)):=by
 refine T.ind fun k n s ks ih u S cs ds h h'=>?_
 intro w hI
 obtain ⟨kv,rfl,_,_,_,hks⟩:=RdT.iff.1 h
 obtain ⟨kv',rfl,_,_,_,hks'⟩:=RdT.iff.1 h'
 obtain ⟨k',n',s',ks'⟩:=u
 simp only [T.name,T.kids,T.kind,T.n] at hks hks' ⊢
 have hlen:=hks.le
 simp only [maxLen] at hlen
 refine uG ?_
 unfold pJ;dsimp only
 refine bQ hI fun b1 w' hI=>?_
 refine bQ hI fun b2 w' hI=>?_
 have hI:Inv w [] [.blk b1 (.cells #[.int .i64 k,.int .i64 n,.string s,kv] ab),.blk b2 (.cells #[.int .i64 k',.int .i64 n',.string s',kv'] ab)] S w':=hI
 refine ⟨fun q w'=>q=.bool (!lk (.mk k n s ks) (.mk k' n' s' ks'))/\Inv w [] [.blk b1 (.cells #[.int .i64 k,.int .i64 n,.string s,kv] ab),.blk b2 (.cells #[.int .i64 k',.int .i64 n',.string s',kv'] ab)] S w',?_,?_⟩
 ·refine aI hI 0 rfl bD bo rfl ?_
  refine aI hI 1 rfl bD bo rfl ?_
  refine gh ?_
  by_cases e1:k=k'
  ·rw [decide_eq_true e1]
   repeat (first|refine ad ?_|refine af (by decide) ?_|refine ac ?_|refine al ?_|refine aj ?_)
   refine aI hI 0 rfl bF bo rfl ?_
   refine aI hI 1 rfl bF bo rfl ?_
   refine gh ?_
   by_cases e2:n=n'
   ·rw [decide_eq_true e2]
    repeat (first|refine ad ?_|refine af (by decide) ?_|refine ac ?_|refine al ?_|refine aj ?_)
    refine aI hI 0 rfl bp bm rfl ?_
    refine aI hI 1 rfl bp bm rfl ?_
    refine uf ?_
    by_cases e3:s=s'
    ·rw [decide_eq_true e3]
     repeat (first|refine ad ?_|refine af (by decide) ?_|refine ac ?_|refine al ?_|refine aj ?_)
     refine aI hI 0 rfl aT aR rfl ?_
     refine a9 hks ay ?_
     refine aI hI 1 rfl aT aR rfl ?_
     refine a9 hks' ay ?_
     refine gh ?_
     repeat (first|refine ad ?_|refine af (by decide) ?_|refine ac ?_|refine al ?_|refine aj ?_)
     exact ⟨by rw [fq,decide_eq_true e1,decide_eq_true e2,decide_eq_true e3,Ll]; rfl,hI⟩
    ·rw [decide_eq_false e3]
     repeat (first|refine ad ?_|refine af (by decide) ?_|refine ac ?_|refine al ?_|refine aj ?_)
     exact ⟨by rw [fq,decide_eq_true e1,decide_eq_true e2,decide_eq_false e3]; rfl,hI⟩
   ·rw [decide_eq_false e2]
    repeat (first|refine ad ?_|refine af (by decide) ?_|refine ac ?_|refine al ?_|refine aj ?_)
    exact ⟨by rw [fq,decide_eq_true e1,decide_eq_false e2]; rfl,hI⟩
  ·rw [decide_eq_false e1]
   repeat (first|refine ad ?_|refine af (by decide) ?_|refine ac ?_|refine al ?_|refine aj ?_)
   exact ⟨by rw [fq,decide_eq_false e1]; rfl,hI⟩

 intro q _ _ _ _ _ _ _ _ _ _ _ _ _ _ _ _ _ _ _ _ _ _ _ _ _ _ _ w'
 rintro ⟨rfl,hI⟩
 rw [Mu]
 cases hd:lk (.mk k n s ks) (.mk k' n' s' ks')
 ·refine ba (fun _=>done hI rfl) (fun hb=>by cases hb)
 refine ba (fun hb=>by cases hb) (fun _=>?_)
 have hle:ks.length=ks'.length:=by
  rw [fq] at hd
  simp only [Bool.and_eq_true,decide_eq_true_eq] at hd
  exact hd.2.2.2
 simp only [T.kids,Bool.true_and]
 refine ⟨fun i w'=>∃ j:Nat,j<=ks.length/\i=.int .i64 j/\eqL (ks.drop j) (ks'.drop j)=eqL ks ks'/\Inv w [] [.blk b1 (.cells #[.int .i64 k,.int .i64 n,.string s,kv] ab),.blk b2 (.cells #[.int .i64 k',.int .i64 n',.string s',kv'] ab)] S w',fun i _=>ks.length - (intOf i).toNat,⟨0,Nat.zero_le _,rfl,rfl,hI⟩,?_⟩
 intro t5 _ _ _ _ _ _ _ _ _ _ _ _ _ _ _ _ _ _ _ _ w'
 rintro ⟨j,hj,rfl,hrel,hI⟩
 refine aI hI 0 rfl aT aR rfl ?_
 refine a9 hks ay ?_
 refine bW ?_
 refine bl (fun hji=>?_) (fun hji=>?_)
 ·have hj1:j<ks.length:=by omega
  have hj2:j<ks'.length:=by omega
  obtain ⟨c1,o1,cap1,a1,E1,fz1,rfl,hS1,hR1⟩:=hks.at_ hj1
  obtain ⟨c2,o2,cap2,a2,E2,fz2,rfl,hS2,hR2⟩:=hks'.at_ hj2
  have hstep:eqL (ks.drop j) (ks'.drop j)=(eqT ks[j] ks'[j] && eqL (ks.drop (j+1)) (ks'.drop (j+1))):=by
   rw [List.drop_eq_getElem_cons hj1,List.drop_eq_getElem_cons hj2,eqL]
  refine ⟨fun D cO cL cM cK bT bU cS dq dk dp dr dn w_=>(D 0=true->dn=.pointer (some ⟨b1,3,none⟩))/\(D 1=true->dr=.slice (some ⟨c1,o1,none⟩) ks.length cap1)/\(D 2=true->dp=.int .i64 j)/\(D 3=true->dk=.pointer (some ⟨c1,o1+j * 4,none⟩))/\(D 4=true->dq=.agg (bw a1 (o1+j * 4) 4).toArray)/\(D 5=true->cS=.pointer (some ⟨b2,3,none⟩))/\(D 6=true->bU=.slice (some ⟨c2,o2,none⟩) ks'.length cap2)/\(D 7=true->bT=.int .i64 j)/\(D 8=true->cK=.pointer (some ⟨c2,o2+j * 4,none⟩))/\(D 9=true->cM=.agg (bw a2 (o2+j * 4) 4).toArray)/\(D 10=true->cL=.bool (eqT ks[j] ks'[j]))/\(D 11=true->cO=.bool (!eqT ks[j] ks'[j]))/\Inv w [] [.blk b1 (.cells #[.int .i64 k,.int .i64 n,.string s,.slice (some ⟨c1,o1,none⟩) ks.length cap1] ab),.blk b2 (.cells #[.int .i64 k',.int .i64 n',.string s',.slice (some ⟨c2,o2,none⟩) ks'.length cap2] ab)] S w_,⟨ae,ae,ae,ae,ae,ae,ae,ae,ae,ae,ae,ae,hI.draw⟩,⟨?_,?_,?_,?_,?_,?_,?_,?_,?_,?_,?_,?_,trivial⟩,?_⟩
  ·intro D aY  cO cL cM cK bT bU cS dq dk dp dr dn w_
   rintro ⟨aA,aB,aC,az,av,aE,aD,aH,aK,aP,ag,ai,hI⟩
   refine bi aT ?_
   exact ⟨fun _=>rfl,aB,aC,az,av,aE,aD,aH,aK,aP,ag,ai,hI⟩
  ·intro D aY b0 cO cL cM cK bT bU cS dq dk dp dr dn w_
   rintro ⟨aA,aB,aC,az,av,aE,aD,aH,aK,aP,ag,ai,hI⟩
   obtain rfl:=aA b0
   refine bG hI 0 aR rfl rfl ?_
   exact ⟨aA,fun _=>rfl,aC,az,av,aE,aD,aH,aK,aP,ag,ai,hI⟩
  ·intro D aY  cO cL cM cK bT bU cS dq dk dp dr dn w_
   rintro ⟨aA,aB,aC,az,av,aE,aD,aH,aK,aP,ag,ai,hI⟩
   exact ⟨aA,aB,fun _=>rfl,az,av,aE,aD,aH,aK,aP,ag,ai,hI⟩
  ·intro D aY dE gK cO cL cM cK bT bU cS dq dk dp dr dn w_
   rintro ⟨aA,aB,aC,az,av,aE,aD,aH,aK,aP,ag,ai,hI⟩
   obtain rfl:=aB dE
   obtain rfl:=aC gK
   refine bk ay hj1 ?_
   exact ⟨aA,aB,aC,fun _=>rfl,av,aE,aD,aH,aK,aP,ag,ai,hI⟩
  ·intro D aY dB cO cL cM cK bT bU cS dq dk dp dr dn w_
   rintro ⟨aA,aB,aC,az,av,aE,aD,aH,aK,aP,ag,ai,hI⟩
   obtain rfl:=az dB
   refine cU ao hR1.length (fun j v hj=>by rw [hI.cellS hS1]; exact bn rfl j v hj) ?_
   exact ⟨aA,aB,aC,az,fun _=>rfl,aE,aD,aH,aK,aP,ag,ai,hI⟩
  ·intro D aY  cO cL cM cK bT bU cS dq dk dp dr dn w_
   rintro ⟨aA,aB,aC,az,av,aE,aD,aH,aK,aP,ag,ai,hI⟩
   refine bi aT ?_
   exact ⟨aA,aB,aC,az,av,fun _=>rfl,aD,aH,aK,aP,ag,ai,hI⟩
  ·intro D aY dT cO cL cM cK bT bU cS dq dk dp dr dn w_
   rintro ⟨aA,aB,aC,az,av,aE,aD,aH,aK,aP,ag,ai,hI⟩
   obtain rfl:=aE dT
   refine bG hI 1 aR rfl rfl ?_
   exact ⟨aA,aB,aC,az,av,aE,fun _=>rfl,aH,aK,aP,ag,ai,hI⟩
  ·intro D aY  cO cL cM cK bT bU cS dq dk dp dr dn w_
   rintro ⟨aA,aB,aC,az,av,aE,aD,aH,aK,aP,ag,ai,hI⟩
   exact ⟨aA,aB,aC,az,av,aE,aD,fun _=>rfl,aK,aP,ag,ai,hI⟩
  ·intro D aY cJ i7 cO cL cM cK bT bU cS dq dk dp dr dn w_
   rintro ⟨aA,aB,aC,az,av,aE,aD,aH,aK,aP,ag,ai,hI⟩
   obtain rfl:=aD cJ
   obtain rfl:=aH i7
   refine bk ay hj2 ?_
   exact ⟨aA,aB,aC,az,av,aE,aD,aH,fun _=>rfl,aP,ag,ai,hI⟩
  ·intro D aY hY cO cL cM cK bT bU cS dq dk dp dr dn w_
   rintro ⟨aA,aB,aC,az,av,aE,aD,aH,aK,aP,ag,ai,hI⟩
   obtain rfl:=aK hY
   refine cU ao hR2.length (fun j v hj=>by rw [hI.cellS hS2]; exact bn rfl j v hj) ?_
   exact ⟨aA,aB,aC,az,av,aE,aD,aH,aK,fun _=>rfl,ag,ai,hI⟩
  ·intro D aY cF fl cO cL cM cK bT bU cS dq dk dp dr dn w_
   rintro ⟨aA,aB,aC,az,av,aE,aD,aH,aK,aP,ag,ai,hI⟩
   obtain rfl:=av cF
   obtain rfl:=aP fl
   refine Run.callPure kJ kP hI (ih _ (List.getElem_mem hj1) _ S _ _ hR1 hR2) fun w_ hI=>?_
   exact ⟨aA,aB,aC,az,av,aE,aD,aH,aK,aP,fun _=>rfl,ai,hI⟩
  ·intro D aY gv cO cL cM cK bT bU cS dq dk dp dr dn w_
   rintro ⟨aA,aB,aC,az,av,aE,aD,aH,aK,aP,ag,ai,hI⟩
   obtain rfl:=ag gv
   refine dh ?_
   exact ⟨aA,aB,aC,az,av,aE,aD,aH,aK,aP,ag,fun _=>rfl,hI⟩
  intro D fk fw iK gI fK fL fH fC fB fE fM fJ cO cL cM cK bT bU cS dq dk dp dr dn w_
  rintro ⟨aA,aB,aC,az,av,aE,aD,aH,aK,aP,ag,ai,hI⟩
  obtain rfl:=ai fk
  obtain rfl:=ag fw
  obtain rfl:=aP iK
  obtain rfl:=aK gI
  obtain rfl:=aH fK
  obtain rfl:=aD fL
  obtain rfl:=aE fH
  obtain rfl:=av fC
  obtain rfl:=az fB
  obtain rfl:=aC fE
  obtain rfl:=aB fM
  obtain rfl:=aA fJ
  clear aA aB aC az av aE aD aH aK aP ag ai
  refine ba (fun hne=>?_) (fun he'=>?_)
  ·exact done hI (by rw [<- hrel,hstep]; simp at hne; rw [hne]; rfl)
  ·refine bN (by omega) ?_
   refine ⟨⟨j+1,hj1,rfl,?_,hI⟩,by simp [intOf]; omega⟩
   rw [<- hrel,hstep]
   simp at he'
   rw [he',Bool.true_and]
 ·have:j=ks.length:=by omega
  subst this
  refine done hI ?_
  rw [<- hrel,List.drop_length,hle,List.drop_length]
  rfl

end Go.Proofs.YtemmhhdnlbmicaaGreat

/- Whether terms are the same: the program's side. -/
namespace Go.Proofs.YtemmhhdnlbmicaaGreat
open Go Go.RowKit
attribute [local irreducible] Run CondV ah be

theorem Eb {xs:List T} (ih:∀ t∈xs,∀ (u:T) (S:aF) (cs ds:List Value),RdT S cs t->RdT S ds u->Pure Tryz.prog jb [.agg cs.toArray,.agg ds.toArray] S (.bool (eqT t u)))
  {ys:List T} {S:aF} {v u:Value} (h:RdSl S 4 (RdT S) v xs) (h':RdSl S 4 (RdT S) u ys):Pure Tryz.prog qi [v,u,.func (.func jb) #[] #[]] S (.bool (eqL xs ys)):=by
 intro w hI
 have hlen:(xs.length:Int)<=9223372036854775807:=by have:=h.le; simp only [maxLen] at this; omega
 refine mm ?_
 unfold iT
 refine a9 h ay ?_
 refine a9 h' ay ?_
 refine gh ?_
 refine ba (fun hne=>?_) (fun he=>?_)
 ·exact done hI (by rw [IR (by simp at hne; omega)])
 have he:xs.length=ys.length:=by simp at he; omega
 refine a9 h ay ?_
 refine ⟨fun i w'=>∃ (k:Nat),k<=xs.length/\i=.int .i64 k/\eqL (xs.drop k) (ys.drop k)=eqL xs ys/\Inv w [] [] S w',fun i _=>xs.length - (intOf i).toNat,⟨0,Nat.zero_le _,rfl,rfl,hI⟩,?_⟩
 intro t5 _ _ _ _ _ _ _ _ _ _ _ _ _ _ _ _ _ _ w'
 rintro ⟨k,hk,rfl,hrel,hI⟩
 refine bW ?_
 refine bl (fun hki=>?_) (fun hki=>?_)
 ·have hk1:k<xs.length:=by omega
  have hk2:k<ys.length:=by omega
  have hstep:eqL (xs.drop k) (ys.drop k)=(eqT xs[k] ys[k] && eqL (xs.drop (k+1)) (ys.drop (k+1))):=by
   rw [List.drop_eq_getElem_cons hk1,List.drop_eq_getElem_cons hk2,eqL]
  refine dZ hI h ay ao hk1 (fun _ _=>RdT.length) fun cs hcs=>?_
  have hlc:=hcs.length
  refine bH hI bL fun b8 w' hI=>?_
  refine bg hI 0 rfl ao (by simpa using hlc) rfl (by simpa using hcs.one) fun w' hI=>?_
  refine dZ hI h' ay ao hk2 (fun _ _=>RdT.length) fun ds hds=>?_
  have hld:=hds.length
  refine bH hI bL fun b9 w' hI=>?_
  refine bg hI 1 rfl ao (by simpa using hld) rfl (by simpa using hds.one) fun w' hI=>?_
  refine bb hI 0 ao rfl (by simpa using hlc) ?_
  refine bb hI 1 ao rfl (by simpa using hld) ?_
  refine Run.callPure kI kQ hI (ih _ (List.getElem_mem hk1) _ S _ _ hcs hds) fun w' hI=>?_
  refine dh ?_
  refine ba (fun hne=>?_) (fun he'=>?_)
  ·exact done hI (by rw [<- hrel,hstep]; simp at hne; rw [hne]; rfl)
  ·refine bN (by omega) ?_
   refine ⟨⟨k+1,hk1,rfl,?_,hI.nil⟩,by simp [intOf]; omega⟩
   rw [<- hrel,hstep]
   simp at he'
   rw [he',Bool.true_and]
 ·have:k=xs.length:=by omega
  subst this
  refine done hI ?_
  rw [<- hrel,List.drop_length,he,List.drop_length]
  rfl
theorem lc:∀ (t u:T) (S:aF) (cs ds:List Value),RdT S cs t->RdT S ds u->Pure Tryz.prog jb [.agg cs.toArray,.agg ds.toArray] S (.bool (eqT t u)):=by
 refine T.ind fun k n s ks ih u S cs ds h h'=>?_
 intro w hI
 obtain ⟨kv,rfl,_,_,_,hks⟩:=RdT.iff.1 h
 obtain ⟨kv',rfl,_,_,_,hks'⟩:=RdT.iff.1 h'
 obtain ⟨k',n',s',ks'⟩:=u
 simp only [T.name,T.kids,T.kind,T.n] at hks hks' ⊢
 refine tV ?_
 unfold pU;dsimp only
 refine bQ hI fun b1 w' hI=>?_
 refine bQ hI fun b2 w' hI=>?_
 refine aI hI 0 rfl bD bo rfl ?_
 refine aI hI 1 rfl bD bo rfl ?_
 refine bR ?_
 by_cases e1:k=k'
 ·rw [decide_eq_true e1]
  repeat (first|refine ad ?_|refine af (by decide) ?_|refine ac ?_|refine al ?_|refine aj ?_)
  refine aI hI 0 rfl bF bo rfl ?_
  refine aI hI 1 rfl bF bo rfl ?_
  refine bR ?_
  by_cases e2:n=n'
  ·rw [decide_eq_true e2]
   repeat (first|refine ad ?_|refine af (by decide) ?_|refine ac ?_|refine al ?_|refine aj ?_)
   refine aI hI 0 rfl bp bm rfl ?_
   refine aI hI 1 rfl bp bm rfl ?_
   refine cN ?_
   by_cases e3:s=s'
   ·rw [decide_eq_true e3]
    repeat (first|refine ad ?_|refine af (by decide) ?_|refine ac ?_|refine al ?_|refine aj ?_)
    refine aI hI 0 rfl aT aR rfl ?_
    refine aI hI 1 rfl aT aR rfl ?_
    refine Run.callPure pr pf hI (Eb ih hks hks') fun w' hI=>?_
    repeat (first|refine ad ?_|refine af (by decide) ?_|refine ac ?_|refine al ?_|refine aj ?_)
    exact done hI (by rw [eqT,decide_eq_true e1,decide_eq_true e2,decide_eq_true e3]; rfl)
   ·rw [decide_eq_false e3]
    repeat (first|refine ad ?_|refine af (by decide) ?_|refine ac ?_|refine al ?_|refine aj ?_)
    exact done hI (by rw [eqT,decide_eq_true e1,decide_eq_true e2,decide_eq_false e3]; rfl)
  ·rw [decide_eq_false e2]
   repeat (first|refine ad ?_|refine af (by decide) ?_|refine ac ?_|refine al ?_|refine aj ?_)
   exact done hI (by rw [eqT,decide_eq_true e1,decide_eq_false e2]; rfl)
 ·rw [decide_eq_false e1]
  repeat (first|refine ad ?_|refine af (by decide) ?_|refine ac ?_|refine al ?_|refine aj ?_)
  exact done hI (by rw [eqT,decide_eq_false e1]; rfl)

end Go.Proofs.YtemmhhdnlbmicaaGreat

/- Maps from numbers to terms. -/
namespace Go.Proofs.YtemmhhdnlbmicaaGreat
open Go Go.RowKit

theorem u9 {n:Int}:∀ (l:List MapEntry) (i:Nat),(∀ e∈l,∃ m,e.key=.int .i64 m)->
  (∃ j,∃ e∈l,e.key=.int .i64 n/\Instr.findNow (.int .i64) (.int .i64 n) l i=some (some (j,e.val))) ∨ ((∀ e∈l,e.key≠.int .i64 n)/\Instr.findNow (.int .i64) (.int .i64 n) l i=some none)
 | [],i,_=>.inr ⟨by simp,rfl⟩
 | e::l,i,h=>by
  obtain ⟨m,hm⟩:=h e (List.mem_cons_self ..)
  have hs:Instr.sameNow (.int .i64) (.int .i64 n) e.key=some (n == m):=by rw [hm]; rfl
  by_cases hnm:n=m
  ·refine .inl ⟨i,e,List.mem_cons_self ..,by rw [hm,hnm],?_⟩
   have:(n == m)=true:=by simpa using hnm
   rw [Instr.findNow,hs,this]
  ·have h2:(n == m)=false:=by simpa using hnm
   rcases u9 l (i+1) (fun e he=>h e (List.mem_cons_of_mem _ he)) with ⟨j,e',he',hk,hf⟩|⟨hk,hf⟩
   ·exact .inl ⟨j,e',List.mem_cons_of_mem _ he',hk,by rw [Instr.findNow,hs,h2]; exact hf⟩
   ·refine .inr ⟨fun x hx=>?_,by rw [Instr.findNow,hs,h2]; exact hf⟩
    rcases List.mem_cons.1 hx with rfl|hx
    ·rw [hm]
     intro e'
     simp only [Value.int.injEq,true_and] at e'
     exact hnm e'.symm
    ·exact hk x hx
section
variable {P:Program} {w w0:World} {X:List Nat} {L:List Item} {S:aF} {K:Value->World->Prop}
attribute [local irreducible] Run CondV ah be
theorem gT {kt:TypeId} {d:TypeDesc} {k:Value} {l:List MapEntry} {a:Option (Nat × Value)} (hd:P.underlying kt=some d) (h:Instr.findNow d k l 0=some a):(Instr.findKey kt k l).run P w=.ok a w:=by
 simp [Instr.findKey,run_underlying hd,Result.andThen,h]
theorem JA (h:Inv w0 X L S w) {T ty:TypeId} (hk:∀ b w',Inv w0 X (L++[.blk b (.map #[] 0)]) S w'->K (.map (some b)) w'):Run P (sOp (.makeMap T none) ty) w K:=by
 refine Run.of (v:=.map (some w.heap.size)) (w':={ w with heap:=w.heap.push (.map #[] 0) }) ?_ (hk _ _ (h.alloc _))
 simp [sOp,execOp,Instr.makeMap,newObj,Sem.run]
theorem Fp (h:Inv w0 X L S w) {T kt et ty:TypeId} {b clock:Nat} {es:Array MapEntry} {n:Int} {z v:Value} {ok:Bool} (i:Nat) (hT:P.underlying T=some (.map kt et)) (hkt:P.underlying kt=some (.int .i64))
  (hz:iL P et=some z) (hi:L[i]?=some (.blk b (.map es clock)))
  (hf:(∃ j,Instr.findNow (.int .i64) (.int .i64 n) es.toList 0=some (some (j,v))/\ok=true) ∨ (Instr.findNow (.int .i64) (.int .i64 n) es.toList 0=some none/\v=z/\ok=false))
  (hk:K (.tuple #[v,.bool ok]) w):Run P (sOp (.lookup T (.const (.map (some b))) (.const (.int .i64 n)) true) ty) w K:=by
 have hb:w.heap[b]?=some (.map es clock):=h.its _ (List.mem_of_getElem? hi)
 have hck:∀ e,(Instr.checkKey e 10000 kt (.int .i64 n)).run P w=.ok () w:=fun e=>by
  rw [show (10000:Nat)=9999+1 from rfl,Instr.checkKey]
  simp [run_underlying hkt]
 obtain ⟨inf,hi1,hi2⟩:∃ inf,P.info? et=some inf/\inf.zero=some z:=by
  unfold iL at hz
  cases hinf:P.info? et with
  | none=>rw [hinf] at hz; simp at hz
  | some inf=>rw [hinf] at hz; exact ⟨inf,rfl,by simpa using hz⟩
 have hzv:(zeroValue et).run P w=.ok z w:=by simp [zeroValue,typeInfo,hi1,hi2]
 refine Run.of ?_ hk
 have hg:(getObj b).run P w=.ok (.map es clock) w:=by simp [getObj,Sem.run,hb]
 rcases hf with ⟨j,hf,rfl⟩|⟨hf,rfl,rfl⟩
 ·have hfk:=gT (P:=P) (w:=w) hkt hf
  simp [sOp,execOp,ev0,evE,Instr.lookup,run_underlying hT,hg,hck,hfk]
 ·have hfk:=gT (P:=P) (w:=w) hkt hf
  simp [sOp,execOp,ev0,evE,Instr.lookup,run_underlying hT,hg,hck,hfk,hzv]
theorem KV (h:Inv w0 X L S w) {T kt et ty:TypeId} {b clock:Nat} {es:Array MapEntry} {n:Int} {v:Value} (i:Nat) (hT:P.underlying T=some (.map kt et)) (hkt:P.underlying kt=some (.int .i64))
  (hi:L[i]?=some (.blk b (.map es clock))) (hf:Instr.findNow (.int .i64) (.int .i64 n) es.toList 0=some none)
  (hk:∀ w',Inv w0 X (L.set i (.blk b (.map (es.push { key:=.int .i64 n,val:=v,born:=clock }) (clock+1)))) S w'->K undef w') :
  Run P (sOp (.mapUpdate T (.const (.map (some b))) (.const (.int .i64 n)) (.const v)) ty) w K:=by
 have hb:w.heap[b]?=some (.map es clock):=h.its _ (List.mem_of_getElem? hi)
 have hck:∀ e,(Instr.checkKey e 10000 kt (.int .i64 n)).run P w=.ok () w:=fun e=>by
  rw [show (10000:Nat)=9999+1 from rfl,Instr.checkKey]
  simp [run_underlying hkt]
 have hg:(getObj b).run P w=.ok (.map es clock) w:=by simp [getObj,Sem.run,hb]
 have hfk:=gT (P:=P) (w:=w) hkt hf
 refine Run.ofSkip (w':={ w with heap:=w.heap.setIfInBounds b (.map (es.push { key:=.int .i64 n,val:=v,born:=clock }) (clock+1)) }) ?_ (hk _ (h.setBlk hi _ rfl))
 have hst:(setObj b (.map (es.push { key:=.int .i64 n,val:=v,born:=clock }) (clock+1))).run P w=.ok () { w with heap:=w.heap.setIfInBounds b (.map (es.push { key:=.int .i64 n,val:=v,born:=clock }) (clock+1)) }:=by simp [setObj,Sem.run,hb]
 simp [sOp,execOp,ev0,evE,Instr.mapUpdate,run_underlying hT,hg,hck,hfk,hst]
end

end Go.Proofs.YtemmhhdnlbmicaaGreat

/- Matching a general term to a special one: the plain form, and spec.l3Match. -/
namespace Go.Proofs.YtemmhhdnlbmicaaGreat
open Go Go.RowKit

abbrev bt:=List (Option T)
mutual
def bI:T->T->bt->Bool × bt
 | .mk k n s ks,u,st=>if k=1 then (match st[n.toNat]? with
   | some (some t)=>(eqT t u,st)
   | _=>(true,st.set n.toNat (some u)))
  else if lk (.mk k n s ks) u=true then eL ks u.kids st else (false,st)
def eL:List T->List T->bt->Bool × bt
 | [],_,st=>(true,st)
 | _::_,[],st=>(true,st)
 | t::ts,u::us,st=>if (bI t u st).1=true then eL ts us (bI t u st).2 else (false,(bI t u st).2)
end
theorem vt (ts us:List T) (st:bt) (j:Nat) (h:j<ts.length) (h':j<us.length) :
  eL (ts.drop j) (us.drop j) st=if (bI ts[j] us[j] st).1=true then eL (ts.drop (j+1)) (us.drop (j+1)) (bI ts[j] us[j] st).2 else (false,(bI ts[j] us[j] st).2):=by
 rw [List.drop_eq_getElem_cons h,List.drop_eq_getElem_cons h',eL]
/- variables within the table; kinds that are kinds -/
mutual
def okV:T->Prop
 | .mk k n _ ks=>(k=1->0<=n/\n<=25)/\FG ks
def FG:List T->Prop
 | []=>True
 | t::ts=>okV t/\FG ts
end
theorem nH:∀ {ts:List T},FG ts->∀ t∈ts,okV t
 | _::_,h,t,ht=>by
  rcases List.mem_cons.1 ht with rfl|ht
  ·exact h.1
  ·exact nH h.2 t ht
mutual
def okK:T->Prop
 | .mk k _ _ ks=>k≠0/\Bm ks
def Bm:List T->Prop
 | []=>True
 | t::ts=>okK t/\Bm ts
end
theorem n3:∀ {ts:List T},Bm ts->∀ t∈ts,okK t
 | _::_,h,t,ht=>by
  rcases List.mem_cons.1 ht with rfl|ht
  ·exact h.1
  ·exact n3 h.2 t ht
theorem G0 {t:T} (h:ez t=true):(t.kind=1->0<=t.n/\t.n<=25)/\t.kind≠0:=by
 unfold ez at h
 refine ⟨fun hk=>?_,fun hk=>?_⟩
 ·rw [if_pos hk] at h
  simp only [Bool.and_eq_true,decide_eq_true_eq] at h
  exact ⟨h.1,h.2.1⟩
 ·rw [if_neg (by omega),if_neg (by omega),if_neg (by omega)] at h
  cases h
def uH (st:bt):Prop:=st.length=26/\∀ t,some t∈st->okK t
theorem K1 {st:bt} {n:Nat} {u:T} (h:uH st) (hu:okK u):uH (st.set n (some u)):=by
 refine ⟨by rw [List.length_set]; exact h.1,fun t ht=>?_⟩
 rcases List.mem_or_eq_of_mem_set ht with ht|ht
 ·exact h.2 t ht
 ·simp only [Option.some.injEq] at ht
  rw [ht]; exact hu
mutual
theorem rG:∀ (t u:T) (st:bt),uH st->okK u->uH (bI t u st).2
 | .mk k n s ks,u,st,h,hu=>by
  rw [bI]
  split
  ·split
   ·exact h
   ·exact K1 h hu
  ·split
   ·obtain ⟨k',n',s',ks'⟩:=u
    rw [okK] at hu
    exact Cf ks ks' st h hu.2
   ·exact h
theorem Cf:∀ (ts us:List T) (st:bt),uH st->Bm us->uH (eL ts us st).2
 | [],_,st,h,_=>by rw [eL]; exact h
 | _::_,[],st,h,_=>by rw [eL]; exact h
 | t::ts,u::us,st,h,hu=>by
  rw [eL]
  rw [Bm] at hu
  split
  ·exact Cf ts us _ (rG t u st h hu.1) hu.2
  ·exact rG t u st h hu.1
end
def o3:List Value:=[.int .i64 0,.int .i64 0,.string ⟨#[]⟩,.slice none 0 0]
/- the table of spec.l3Match -/
def KnownC (S:aF) (c:Array Value) (st:bt):Prop:=104<=c.size/\∀ i (h:i<st.length),(st[i]=none->bw c (i * 4) 4=o3)/\(∀ t,st[i]=some t->RdT S (bw c (i * 4) 4) t)
theorem KnownC.set {S:aF} {c:Array Value} {st:bt} (h:KnownC S c st) {n:Nat} (hn:n<26) {cs:List Value} {u:T} (hu:RdT S cs u):KnownC S (bu c (n * 4) cs) (st.set n (some u)):=by
 have hlc:=hu.length
 have h1:=h.1
 have hs:104<=(bu c (n * 4) cs).size:=by rw [fU _ _ _ (by omega)]; exact h1
 refine ⟨hs,fun i hi=>?_⟩
 rw [List.length_set] at hi
 by_cases e:n=i
 ·subst e
  rw [List.getElem_set_self]
  refine ⟨fun h=>(by cases h),fun t ht=>?_⟩
  simp only [Option.some.injEq] at ht
  subst ht
  have:=ie (c:=c) (o:=n * 4) (vs:=cs) (by omega)
  rw [hlc] at this
  rw [this]
  exact hu
 ·rw [List.getElem_set_ne e,jL (by omega) (by omega)]
  exact h.2 i hi
section
attribute [local irreducible] Run CondV ah be
abbrev kvn (kb kp:Nat):Value:=.slice (some ⟨kb,0,none⟩) 26 kp
abbrev kv0 (kb:Nat):Value:=kvn kb 26
theorem As (kp:Nat):∀ (t u:T) (S:aF) (cs ds:List Value) (kb:Nat) (kc:Array Value) (st:bt),RdT S cs t->RdT S ds u->okV t->okK u->uH st->KnownC S kc st->
  Tri Tryz.prog E6 [.agg cs.toArray,.agg ds.toArray,kvn kb kp] [.blk kb (.cells kc ab)] S fun r I' S'=>S'=S/\r=.bool (bI t u st).1/\∃ kc',I'=[.blk kb (.cells kc' ab)]/\KnownC S kc' (bI t u st).2:=by
 refine T.ind fun k n s ks ih u S cs ds kb kc st h h' hv hu hst hkc=>?_
 intro w hI
 have hds:=h'
 obtain ⟨kv,rfl,_,_,_,hks⟩:=RdT.iff.1 h
 obtain ⟨kv',rfl,_,_,_,hks'⟩:=RdT.iff.1 h'
 obtain ⟨k',n',s',ks'⟩:=u
 simp only [T.name,T.kids,T.kind,T.n] at hks hks' ⊢
 have hlen:=hks.le
 simp only [maxLen] at hlen
 rw [okV] at hv
 obtain ⟨hv1,hv2⟩:=hv
 have huk:=hu
 rw [okK] at hu
 obtain ⟨X,hX⟩:∃ X,X=bX [Item.blk kb (.cells kc ab)]:=⟨_,rfl⟩
 rw [<- hX] at hI ⊢
 refine xj ?_
 unfold tm;dsimp only
 refine bQ hI fun b1 w' hI=>?_
 refine bQ hI fun b2 w' hI=>?_
 have hI:Inv w X [.blk b1 (.cells #[.int .i64 k,.int .i64 n,.string s,kv] ab),.blk b2 (.cells #[.int .i64 k',.int .i64 n',.string s',kv'] ab),.blk kb (.cells kc ab)] S w':=hI.perm (by
  refine (List.perm_append_comm (l₁:=[_,_]) (l₂:=[_])).trans ?_
  exact List.Perm.refl _)
 refine aI hI 0 rfl bD bo rfl ?_
 refine bR ?_
 refine bl (fun hk1=>?_) (fun hk1=>?_)
 ·obtain ⟨hn0,hn25⟩:=hv1 hk1
  obtain ⟨j,rfl⟩:∃ j:Nat,n=j:=⟨n.toNat,by omega⟩
  have hj:j<26:=by omega
  have hjs:j<st.length:=by rw [hst.1]; exact hj
  refine aI hI 0 rfl bF bo rfl ?_
  refine bk ay hj ?_
  refine bi bD ?_
  rw [Nat.zero_add,Nat.add_zero]
  obtain ⟨hno,hso⟩:=hkc.2 j hjs
  cases hst2:st[j] with
  | none=>
   have hcell:=hno hst2
   refine bG hI 2 bo rfl (by have:=bn hcell 0 _ rfl; exact this) ?_
   refine gh ?_
   refine ba (fun hb=>by simp at hb) (fun _=>?_)
   refine aI hI 0 rfl bF bo rfl ?_
   refine bb hI 1 ao rfl rfl ?_
   refine bk ay hj ?_
   rw [Nat.zero_add]
   refine Ey hI 2 rfl ao rfl (by have:=hkc.1; exact Nat.ble_eq_true_of_le (by omega)) hds.one fun w' hI=>?_
   have hm:bI (.mk k j s ks) (.mk k' n' s' ks') st=(true,st.set j (some (.mk k' n' s' ks'))):=by
    rw [bI,if_pos hk1,Int.toNat_natCast,List.getElem?_eq_getElem hjs,hst2]
   rw [hm]
   exact ⟨_,_,_,rfl,hI.pick [false,false,true],Ext.refl _ _ _,rfl,rfl,_,rfl,hkc.set hj hds⟩
  | some t0=>
   have hR:=hso t0 hst2
   have hk0:t0.kind≠0:=by
    have:=hst.2 t0 (by rw [<- hst2]; exact List.getElem_mem hjs)
    obtain ⟨a,b,c,d⟩:=t0
    rw [okK] at this
    exact this.1
   obtain ⟨kv0',hcell,_,_,_,_⟩:=RdT.iff.1 hR
   refine bG hI 2 bo rfl (by have:=bn hcell 0 _ rfl; exact this) ?_
   refine gh ?_
   rw [decide_eq_false hk0]
   refine ba (fun _=>?_) (fun hb=>by cases hb)
   refine ⟨fun D x6 bV cf cd cC cc bY du w_=>(D 0=true->du=kvn kb kp)/\(D 1=true->bY=.pointer (some ⟨b1,1,none⟩))/\(D 2=true->cc=.int .i64 j)/\(D 3=true->cC=.pointer (some ⟨kb,j * 4,none⟩))/\(D 4=true->cd=.agg (bw kc (j * 4) 4).toArray)/\(D 5=true->cf=.agg #[.int .i64 k',.int .i64 n',.string s',kv'])/\(D 6=true->bV=.bool (eqT t0 (.mk k' n' s' ks')))/\(D 7=true->x6=.bool (eqT t0 (.mk k' n' s' ks')))/\Inv w X [.blk b1 (.cells #[.int .i64 k,.int .i64 (j:Int),.string s,kv] ab),.blk b2 (.cells #[.int .i64 k',.int .i64 n',.string s',kv'] ab),.blk kb (.cells kc ab)] S w_,⟨ae,ae,ae,ae,ae,ae,ae,ae,hI.draw⟩,⟨?_,?_,?_,?_,?_,?_,?_,?_,trivial⟩,?_⟩
   ·intro D aY  x6 bV cf cd cC cc bY du w_
    rintro ⟨aA,aB,aC,az,av,aE,aD,aH,hI⟩
    exact ⟨fun _=>rfl,aB,aC,az,av,aE,aD,aH,hI⟩
   ·intro D aY  x6 bV cf cd cC cc bY du w_
    rintro ⟨aA,aB,aC,az,av,aE,aD,aH,hI⟩
    refine bi bF ?_
    exact ⟨aA,fun _=>rfl,aC,az,av,aE,aD,aH,hI⟩
   ·intro D aY dE x6 bV cf cd cC cc bY du w_
    rintro ⟨aA,aB,aC,az,av,aE,aD,aH,hI⟩
    obtain rfl:=aB dE
    refine bG hI 0 bo rfl rfl ?_
    exact ⟨aA,aB,fun _=>rfl,az,av,aE,aD,aH,hI⟩
   ·intro D aY b0 gK x6 bV cf cd cC cc bY du w_
    rintro ⟨aA,aB,aC,az,av,aE,aD,aH,hI⟩
    obtain rfl:=aA b0
    obtain rfl:=aC gK
    refine bk ay hj ?_; rw [Nat.zero_add]
    exact ⟨aA,aB,aC,fun _=>rfl,av,aE,aD,aH,hI⟩
   ·intro D aY dB x6 bV cf cd cC cc bY du w_
    rintro ⟨aA,aB,aC,az,av,aE,aD,aH,hI⟩
    obtain rfl:=az dB
    refine fe hI 2 (bw kc (j * 4) 4) ao rfl hR.length (fun i v hi=>bn rfl i v hi) ?_
    exact ⟨aA,aB,aC,az,fun _=>rfl,aE,aD,aH,hI⟩
   ·intro D aY  x6 bV cf cd cC cc bY du w_
    rintro ⟨aA,aB,aC,az,av,aE,aD,aH,hI⟩
    refine bb hI 1 ao rfl rfl ?_
    exact ⟨aA,aB,aC,az,av,fun _=>rfl,aD,aH,hI⟩
   ·intro D aY cF g0 x6 bV cf cd cC cc bY du w_
    rintro ⟨aA,aB,aC,az,av,aE,aD,aH,hI⟩
    obtain rfl:=av cF
    obtain rfl:=aE g0
    refine Run.callPure kJ kP hI (lQ t0 _ S _ _ hR hds) fun w_ hI=>?_
    exact ⟨aA,aB,aC,az,av,aE,fun _=>rfl,aH,hI⟩
   ·intro D aY cJ f0 nY tb s0 qY s5 xu wt x6 bV cf cd cC cc bY du w_
    rintro ⟨aA,aB,aC,az,av,aE,aD,aH,hI⟩
    obtain rfl:=aD cJ
    exact ⟨aA,aB,aC,az,av,aE,aD,fun _=>rfl,hI⟩
   intro D fK fL fH fC fB fE fM fJ x6 bV cf cd cC cc bY du w_
   rintro ⟨aA,aB,aC,az,av,aE,aD,aH,hI⟩
   obtain rfl:=aH fK
   obtain rfl:=aD fL
   obtain rfl:=aE fH
   obtain rfl:=av fC
   obtain rfl:=az fB
   obtain rfl:=aC fE
   obtain rfl:=aB fM
   obtain rfl:=aA fJ
   clear aA aB aC az av aE aD aH
   have hm:bI (.mk k j s ks) (.mk k' n' s' ks') st=(eqT t0 (.mk k' n' s' ks'),st):=by
    rw [bI,if_pos hk1,Int.toNat_natCast,List.getElem?_eq_getElem hjs,hst2]
   rw [hm]
   exact ⟨_,_,_,rfl,hI.pick [false,false,true],Ext.refl _ _ _,rfl,rfl,_,rfl,hkc⟩
 refine ⟨fun q w'=>q=.bool (!lk (.mk k n s ks) (.mk k' n' s' ks'))/\Inv w X [.blk b1 (.cells #[.int .i64 k,.int .i64 n,.string s,kv] ab),.blk b2 (.cells #[.int .i64 k',.int .i64 n',.string s',kv'] ab),.blk kb (.cells kc ab)] S w',?_,?_⟩
 ·refine aI hI 0 rfl bD bo rfl ?_
  refine aI hI 1 rfl bD bo rfl ?_
  refine gh ?_
  by_cases e1:k=k'
  ·rw [decide_eq_true e1]
   repeat (first|refine ad ?_|refine af (by decide) ?_|refine ac ?_|refine al ?_|refine aj ?_)
   refine aI hI 0 rfl bF bo rfl ?_
   refine aI hI 1 rfl bF bo rfl ?_
   refine gh ?_
   by_cases e2:n=n'
   ·rw [decide_eq_true e2]
    repeat (first|refine ad ?_|refine af (by decide) ?_|refine ac ?_|refine al ?_|refine aj ?_)
    refine aI hI 0 rfl bp bm rfl ?_
    refine aI hI 1 rfl bp bm rfl ?_
    refine uf ?_
    by_cases e3:s=s'
    ·rw [decide_eq_true e3]
     repeat (first|refine ad ?_|refine af (by decide) ?_|refine ac ?_|refine al ?_|refine aj ?_)
     refine aI hI 0 rfl aT aR rfl ?_
     refine a9 hks ay ?_
     refine aI hI 1 rfl aT aR rfl ?_
     refine a9 hks' ay ?_
     refine gh ?_
     repeat (first|refine ad ?_|refine af (by decide) ?_|refine ac ?_|refine al ?_|refine aj ?_)
     exact ⟨by rw [fq,decide_eq_true e1,decide_eq_true e2,decide_eq_true e3,Ll]; rfl,hI⟩
    ·rw [decide_eq_false e3]
     repeat (first|refine ad ?_|refine af (by decide) ?_|refine ac ?_|refine al ?_|refine aj ?_)
     exact ⟨by rw [fq,decide_eq_true e1,decide_eq_true e2,decide_eq_false e3]; rfl,hI⟩
   ·rw [decide_eq_false e2]
    repeat (first|refine ad ?_|refine af (by decide) ?_|refine ac ?_|refine al ?_|refine aj ?_)
    exact ⟨by rw [fq,decide_eq_true e1,decide_eq_false e2]; rfl,hI⟩
  ·rw [decide_eq_false e1]
   repeat (first|refine ad ?_|refine af (by decide) ?_|refine ac ?_|refine al ?_|refine aj ?_)
   exact ⟨by rw [fq,decide_eq_false e1]; rfl,hI⟩

 intro q _ _ _ _ _ _ _ _ _ _ _ _ _ _ _ _ _ _ _ _ _ _ _ _ _ _ _ w'
 rintro ⟨rfl,hI⟩
 cases hd:lk (.mk k n s ks) (.mk k' n' s' ks')
 ·refine ba (fun _=>?_) (fun hb=>by cases hb)
  have hm:bI (.mk k n s ks) (.mk k' n' s' ks') st=(false,st):=by rw [bI,if_neg hk1,if_neg (by rw [hd]; decide)]
  rw [hm]
  exact ⟨_,_,_,rfl,hI.pick [false,false,true],Ext.refl _ _ _,rfl,rfl,_,rfl,hkc⟩
 refine ba (fun hb=>by cases hb) (fun _=>?_)
 have hle:ks.length=ks'.length:=by
  rw [fq] at hd
  simp only [Bool.and_eq_true,decide_eq_true_eq] at hd
  exact hd.2.2.2
 have hm:bI (.mk k n s ks) (.mk k' n' s' ks') st=eL ks ks' st:=by rw [bI,if_neg hk1,if_pos hd]; rfl
 rw [hm]
 have hu2:=hu.2
 refine ⟨fun i w'=>∃ (j:Nat) (st':bt) (kc':Array Value),j<=ks.length/\i=.int .i64 j/\eL (ks.drop j) (ks'.drop j) st'=eL ks ks' st/\uH st'/\KnownC S kc' st'/\Inv w X [.blk b1 (.cells #[.int .i64 k,.int .i64 n,.string s,kv] ab),.blk b2 (.cells #[.int .i64 k',.int .i64 n',.string s',kv'] ab),.blk kb (.cells kc' ab)] S w',fun i _=>ks.length - (intOf i).toNat,⟨0,st,kc,Nat.zero_le _,rfl,rfl,hst,hkc,hI⟩,?_⟩
 intro t5 _ _ _ _ _ _ _ _ _ _ _ _ _ _ _ _ _ _ _ _ _ w'
 rintro ⟨j,st',kc',hj,rfl,hrel,hst',hkc',hI⟩
 refine aI hI 0 rfl aT aR rfl ?_
 refine a9 hks ay ?_
 refine bW ?_
 refine bl (fun hji=>?_) (fun hji=>?_)
 ·have hj1:j<ks.length:=by omega
  have hj2:j<ks'.length:=by omega
  obtain ⟨c1,o1,cap1,a1,E1,fz1,rfl,hS1,hR1⟩:=hks.at_ hj1
  obtain ⟨c2,o2,cap2,a2,E2,fz2,rfl,hS2,hR2⟩:=hks'.at_ hj2
  rw [vt ks ks' st' j hj1 hj2] at hrel
  have hcall:=ih _ (List.getElem_mem hj1) ks'[j] S _ _ kb kc' st' hR1 hR2 (nH hv2 _ (List.getElem_mem hj1)) (n3 hu2 _ (List.getElem_mem hj2)) hst' hkc'
  have hsn:=rG ks[j] ks'[j] st' hst' (n3 hu2 _ (List.getElem_mem hj2))
  generalize hr:bI ks[j] ks'[j] st'=r at hrel hcall hsn
  refine ⟨fun D fV fT eU ed ew eq ev el ey eQ fG eJ cE w_=>(D 0=true->cE=.pointer (some ⟨b1,3,none⟩))/\(D 1=true->eJ=.slice (some ⟨c1,o1,none⟩) ks.length cap1)/\(D 2=true->fG=.int .i64 j)/\(D 3=true->eQ=.pointer (some ⟨c1,o1+j * 4,none⟩))/\(D 4=true->ey=.agg (bw a1 (o1+j * 4) 4).toArray)/\(D 5=true->el=.pointer (some ⟨b2,3,none⟩))/\(D 6=true->ev=.slice (some ⟨c2,o2,none⟩) ks'.length cap2)/\(D 7=true->eq=.int .i64 j)/\(D 8=true->ew=.pointer (some ⟨c2,o2+j * 4,none⟩))/\(D 9=true->ed=.agg (bw a2 (o2+j * 4) 4).toArray)/\(D 10=true->eU=kvn kb kp)/\(D 11=true->fT=.bool r.1)/\(D 12=true->fV=.bool (!r.1))/\(D 11=false->Inv w X [.blk b1 (.cells #[.int .i64 k,.int .i64 n,.string s,.slice (some ⟨c1,o1,none⟩) ks.length cap1] ab),.blk b2 (.cells #[.int .i64 k',.int .i64 n',.string s',.slice (some ⟨c2,o2,none⟩) ks'.length cap2] ab),.blk kb (.cells kc' ab)] S w_)/\(D 11=true->∃ kc2,KnownC S kc2 r.2/\Inv w X [.blk b1 (.cells #[.int .i64 k,.int .i64 n,.string s,.slice (some ⟨c1,o1,none⟩) ks.length cap1] ab),.blk b2 (.cells #[.int .i64 k',.int .i64 n',.string s',.slice (some ⟨c2,o2,none⟩) ks'.length cap2] ab),.blk kb (.cells kc2 ab)] S w_)/\∃ kc3,Inv w X [.blk b1 (.cells #[.int .i64 k,.int .i64 n,.string s,.slice (some ⟨c1,o1,none⟩) ks.length cap1] ab),.blk b2 (.cells #[.int .i64 k',.int .i64 n',.string s',.slice (some ⟨c2,o2,none⟩) ks'.length cap2] ab),.blk kb (.cells kc3 ab)] S w_,⟨ae,ae,ae,ae,ae,ae,ae,ae,ae,ae,ae,ae,ae,⟨fun _=>hI.draw,ae,kc',hI.draw⟩⟩,⟨?_,?_,?_,?_,?_,?_,?_,?_,?_,?_,?_,?_,?_,trivial⟩,?_⟩
  ·intro D aY  fV fT eU ed ew eq ev el ey eQ fG eJ cE w_
   rintro ⟨aA,aB,aC,az,av,aE,aD,aH,aK,aP,ag,ai,aG,⟨hI0,hI1,kc3,hI⟩⟩
   refine bi aT ?_
   exact ⟨fun _=>rfl,aB,aC,az,av,aE,aD,aH,aK,aP,ag,ai,aG,⟨hI0,hI1,kc3,hI⟩⟩
  ·intro D aY b0 fV fT eU ed ew eq ev el ey eQ fG eJ cE w_
   rintro ⟨aA,aB,aC,az,av,aE,aD,aH,aK,aP,ag,ai,aG,⟨hI0,hI1,kc3,hI⟩⟩
   obtain rfl:=aA b0
   refine bG hI 0 aR rfl rfl ?_
   exact ⟨aA,fun _=>rfl,aC,az,av,aE,aD,aH,aK,aP,ag,ai,aG,⟨hI0,hI1,kc3,hI⟩⟩
  ·intro D aY  fV fT eU ed ew eq ev el ey eQ fG eJ cE w_
   rintro ⟨aA,aB,aC,az,av,aE,aD,aH,aK,aP,ag,ai,aG,⟨hI0,hI1,kc3,hI⟩⟩
   exact ⟨aA,aB,fun _=>rfl,az,av,aE,aD,aH,aK,aP,ag,ai,aG,⟨hI0,hI1,kc3,hI⟩⟩
  ·intro D aY dE gK fV fT eU ed ew eq ev el ey eQ fG eJ cE w_
   rintro ⟨aA,aB,aC,az,av,aE,aD,aH,aK,aP,ag,ai,aG,⟨hI0,hI1,kc3,hI⟩⟩
   obtain rfl:=aB dE
   obtain rfl:=aC gK
   refine bk ay hj1 ?_
   exact ⟨aA,aB,aC,fun _=>rfl,av,aE,aD,aH,aK,aP,ag,ai,aG,⟨hI0,hI1,kc3,hI⟩⟩
  ·intro D aY dB fV fT eU ed ew eq ev el ey eQ fG eJ cE w_
   rintro ⟨aA,aB,aC,az,av,aE,aD,aH,aK,aP,ag,ai,aG,⟨hI0,hI1,kc3,hI⟩⟩
   obtain rfl:=az dB
   refine cU ao hR1.length (fun j v hj=>by rw [hI.cellS hS1]; exact bn rfl j v hj) ?_
   exact ⟨aA,aB,aC,az,fun _=>rfl,aE,aD,aH,aK,aP,ag,ai,aG,⟨hI0,hI1,kc3,hI⟩⟩
  ·intro D aY  fV fT eU ed ew eq ev el ey eQ fG eJ cE w_
   rintro ⟨aA,aB,aC,az,av,aE,aD,aH,aK,aP,ag,ai,aG,⟨hI0,hI1,kc3,hI⟩⟩
   refine bi aT ?_
   exact ⟨aA,aB,aC,az,av,fun _=>rfl,aD,aH,aK,aP,ag,ai,aG,⟨hI0,hI1,kc3,hI⟩⟩
  ·intro D aY dT fV fT eU ed ew eq ev el ey eQ fG eJ cE w_
   rintro ⟨aA,aB,aC,az,av,aE,aD,aH,aK,aP,ag,ai,aG,⟨hI0,hI1,kc3,hI⟩⟩
   obtain rfl:=aE dT
   refine bG hI 1 aR rfl rfl ?_
   exact ⟨aA,aB,aC,az,av,aE,fun _=>rfl,aH,aK,aP,ag,ai,aG,⟨hI0,hI1,kc3,hI⟩⟩
  ·intro D aY  fV fT eU ed ew eq ev el ey eQ fG eJ cE w_
   rintro ⟨aA,aB,aC,az,av,aE,aD,aH,aK,aP,ag,ai,aG,⟨hI0,hI1,kc3,hI⟩⟩
   exact ⟨aA,aB,aC,az,av,aE,aD,fun _=>rfl,aK,aP,ag,ai,aG,⟨hI0,hI1,kc3,hI⟩⟩
  ·intro D aY cJ i7 fV fT eU ed ew eq ev el ey eQ fG eJ cE w_
   rintro ⟨aA,aB,aC,az,av,aE,aD,aH,aK,aP,ag,ai,aG,⟨hI0,hI1,kc3,hI⟩⟩
   obtain rfl:=aD cJ
   obtain rfl:=aH i7
   refine bk ay hj2 ?_
   exact ⟨aA,aB,aC,az,av,aE,aD,aH,fun _=>rfl,aP,ag,ai,aG,⟨hI0,hI1,kc3,hI⟩⟩
  ·intro D aY hY fV fT eU ed ew eq ev el ey eQ fG eJ cE w_
   rintro ⟨aA,aB,aC,az,av,aE,aD,aH,aK,aP,ag,ai,aG,⟨hI0,hI1,kc3,hI⟩⟩
   obtain rfl:=aK hY
   refine cU ao hR2.length (fun j v hj=>by rw [hI.cellS hS2]; exact bn rfl j v hj) ?_
   exact ⟨aA,aB,aC,az,av,aE,aD,aH,aK,fun _=>rfl,ag,ai,aG,⟨hI0,hI1,kc3,hI⟩⟩
  ·intro D aY  fV fT eU ed ew eq ev el ey eQ fG eJ cE w_
   rintro ⟨aA,aB,aC,az,av,aE,aD,aH,aK,aP,ag,ai,aG,⟨hI0,hI1,kc3,hI⟩⟩
   exact ⟨aA,aB,aC,az,av,aE,aD,aH,aK,aP,fun _=>rfl,ai,aG,⟨hI0,hI1,kc3,hI⟩⟩
  ·intro D aY cF fl yk fV fT eU ed ew eq ev el ey eQ fG eJ cE w_
   rintro ⟨aA,aB,aC,az,av,aE,aD,aH,aK,aP,ag,ai,aG,⟨hI0,hI1,kc3,hI⟩⟩
   obtain rfl:=av cF
   obtain rfl:=aP fl
   obtain rfl:=ag yk
   refine Run.call (A:=[_,_]) rS rh (hI0 aY) hcall fun v' I' S w_=>?_
   rintro ⟨rfl,rfl,kc2,rfl,hk2⟩ _ hI
   have hI0:=fun (h:aw D 11 11=false)=>(Bool.noConfusion h:Inv w X [.blk b1 (.cells #[.int .i64 k,.int .i64 n,.string s,.slice (some ⟨c1,o1,none⟩) ks.length cap1] ab),.blk b2 (.cells #[.int .i64 k',.int .i64 n',.string s',.slice (some ⟨c2,o2,none⟩) ks'.length cap2] ab),.blk kb (.cells kc' ab)] S w_)
   have hI1:=fun (_:aw D 11 11=true)=>(⟨kc2,hk2,hI⟩:∃ kc2,KnownC S kc2 r.2/\Inv w X [.blk b1 (.cells #[.int .i64 k,.int .i64 n,.string s,.slice (some ⟨c1,o1,none⟩) ks.length cap1] ab),.blk b2 (.cells #[.int .i64 k',.int .i64 n',.string s',.slice (some ⟨c2,o2,none⟩) ks'.length cap2] ab),.blk kb (.cells kc2 ab)] S w_)
   obtain ⟨kc3,hI⟩:∃ kc3,Inv w X [.blk b1 (.cells #[.int .i64 k,.int .i64 n,.string s,.slice (some ⟨c1,o1,none⟩) ks.length cap1] ab),.blk b2 (.cells #[.int .i64 k',.int .i64 n',.string s',.slice (some ⟨c2,o2,none⟩) ks'.length cap2] ab),.blk kb (.cells kc3 ab)] S w_:=⟨kc2,hI⟩
   exact ⟨aA,aB,aC,az,av,aE,aD,aH,aK,aP,ag,fun _=>rfl,aG,⟨hI0,hI1,kc3,hI⟩⟩
  ·intro D aY gZ fV fT eU ed ew eq ev el ey eQ fG eJ cE w_
   rintro ⟨aA,aB,aC,az,av,aE,aD,aH,aK,aP,ag,ai,aG,⟨hI0,hI1,kc3,hI⟩⟩
   obtain rfl:=ai gZ
   refine dh ?_
   exact ⟨aA,aB,aC,az,av,aE,aD,aH,aK,aP,ag,ai,fun _=>rfl,⟨hI0,hI1,kc3,hI⟩⟩
  intro D iO fk fw iK gI fK fL fH fC fB fE fM fJ fV fT eU ed ew eq ev el ey eQ fG eJ cE w_
  rintro ⟨aA,aB,aC,az,av,aE,aD,aH,aK,aP,ag,ai,aG,⟨hI0,hI1,kc3,hI⟩⟩
  obtain rfl:=aG iO
  obtain rfl:=ai fk
  obtain rfl:=ag fw
  obtain rfl:=aP iK
  obtain rfl:=aK gI
  obtain rfl:=aH fK
  obtain rfl:=aD fL
  obtain rfl:=aE fH
  obtain rfl:=av fC
  obtain rfl:=az fB
  obtain rfl:=aC fE
  obtain rfl:=aB fM
  obtain rfl:=aA fJ
  clear aA aB aC az av aE aD aH aK aP ag ai aG
  obtain ⟨kc2,hk2,hI⟩:=hI1 fk
  clear hI0 hI1
  refine ba (fun hne=>?_) (fun he'=>?_)
  ·simp only [Bool.not_eq_true'] at hne
   rw [hne,if_neg (by decide)] at hrel
   rw [<- hrel]
   exact ⟨_,_,_,rfl,hI.pick [false,false,true],Ext.refl _ _ _,rfl,rfl,_,rfl,hk2⟩
  ·simp only [Bool.not_eq_false'] at he'
   rw [he',if_pos rfl] at hrel
   refine bN (by omega) ?_
   exact ⟨⟨j+1,r.2,kc2,hj1,rfl,hrel,hsn,hk2,hI⟩,by simp [intOf]; omega⟩
 ·have:j=ks.length:=by omega
  subst this
  rw [List.drop_length,hle,List.drop_length] at hrel
  rw [<- hrel]
  exact ⟨_,_,_,rfl,hI.pick [false,false,true],Ext.refl _ _ _,rfl,rfl,_,rfl,hkc'⟩
end

end Go.Proofs.YtemmhhdnlbmicaaGreat

/- Variables numbered anew: the plain form of both sides. -/
namespace Go.Proofs.YtemmhhdnlbmicaaGreat
open Go Go.RowKit

end Go.Proofs.YtemmhhdnlbmicaaGreat

/- Unification: the plain form. Lists of bindings, what a variable reaches, unifiers, resolved terms. -/
namespace Go.Proofs.YtemmhhdnlbmicaaGreat
open Go Go.RowKit
/- terms whose variables are bare and below a number -/
mutual
def okU (N:Nat):T->Prop
 | .mk k n s ks=>k≠0/\(k=1->0<=n/\n<N/\s=emptyB/\ks=[])/\kS N ks/\s.size<=6
def kS (N:Nat):List T->Prop
 | []=>True
 | t::ts=>okU N t/\kS N ts
end
mutual
def vT:T->List Nat
 | .mk k n _ ks=>if k=1 then [n.toNat] else vTL ks
def vTL:List T->List Nat
 | []=>[]
 | t::ts=>vT t++vTL ts
end
theorem Gc {N:Nat}:∀ {ts:List T},kS N ts->∀ t∈ts,okU N t
 | t::ts,h,x,hx=>by
  rw [kS] at h
  rcases List.mem_cons.1 hx with rfl|hx
  ·exact h.1
  ·exact Gc h.2 x hx
theorem LT {N:Nat}:∀ {ts:List T},(∀ t∈ts,okU N t)->kS N ts
 | [],_=>by rw [kS]; trivial
 | t::ts,h=>by rw [kS]; exact ⟨h t (List.mem_cons_self ..),LT fun u hu=>h u (List.mem_cons_of_mem _ hu)⟩
theorem okU.kids {N:Nat} {t:T} (h:okU N t):kS N t.kids:=by cases t; rw [okU] at h; exact h.2.2.1
theorem okU.var {N:Nat} {t:T} (h:okU N t) (hk:t.kind=1):0<=t.n/\t.n<N/\t.name=emptyB/\t.kids=[]:=by cases t; rw [okU] at h; exact h.2.1 hk
theorem okU.kind {N:Nat} {t:T} (h:okU N t):t.kind≠0:=by cases t; rw [okU] at h; exact h.1
/- what a term is bound to -/
def D0 (st:bt) (t:T):Option T:=if t.kind=1 then (st[t.n.toNat]?).join else none
theorem JQ {st:bt} {t u:T}:D0 st t=some u↔t.kind=1/\st[t.n.toNat]?=some (some u):=by
 unfold D0
 split
 ·rename_i h
  simp only [Option.join_eq_some_iff]
  exact ⟨fun e=>⟨h,e⟩,fun e=>e.2⟩
 ·rename_i h
  simp [h]
theorem JM {st:bt} {t:T}:D0 st t=none↔(t.kind=1->st[t.n.toNat]?=none ∨ st[t.n.toNat]?=some none):=by
 unfold D0
 split
 ·rename_i h
  rw [Option.join_eq_none_iff]
  constructor
  ·intro e _
   rcases e with e|e
   ·exact .inl e
   ·exact .inr e
  ·intro e
   rcases e h with e|e
   ·exact .inl e
   ·exact .inr e
 ·rename_i h
  simp [h]
inductive gE (st:bt):T->T->Prop
 | stop {t:T}:D0 st t=none->gE st t t
 | step {t u v:T}:D0 st t=some u->gE st u v->gE st t v
inductive Rch (st:bt):Nat->Nat->Prop
 | refl (m:Nat):Rch st m m
 | step {m k n:Nat} {u:T}:st[m]?=some (some u)->k∈vT u->Rch st k n->Rch st m n
theorem Rch.trans {st:bt} {a b c:Nat} (h:Rch st a b) (h':Rch st b c):Rch st a c:=by
 induction h with
 | refl=>exact h'
 | step h1 h2 _ ih=>exact .step h1 h2 (ih h')
def CA (st:bt) (n:Nat) (t:T):Prop:=∃ m∈vT t,Rch st m n
structure Good (N:Nat) (st:bt):Prop where
 len:st.length=N
 ok:∀ t,some t∈st->okU N t
 w:∀ t,some t∈st->wT t<=1048576
 rk:∃ r:Nat->Nat,∀ (n:Nat) (u:T),st[n]?=some (some u)->∀ m∈vT u,r m<r n
theorem Good.look_ok {N:Nat} {st:bt} (h:Good N st) {t u:T} (hl:D0 st t=some u):okU N u/\wT u<=1048576:=by
 have:=List.mem_of_getElem? (JQ.1 hl).2
 exact ⟨h.ok u this,h.w u this⟩
theorem kl {N:Nat} {st:bt} {t v:T} (h:Good N st) (hw:gE st t v) (ht:okU N t/\wT t<=1048576):okU N v/\wT v<=1048576:=by
 induction hw with
 | stop=>exact ht
 | step hl _ ih=>exact ih (h.look_ok hl)
theorem BA {st:bt} {t v:T} (hw:gE st t v):D0 st v=none:=by
 induction hw with
 | stop h=>exact h
 | step _ _ ih=>exact ih
/- what a walk leaves open -/
/- bindings that are left -/
def unb:bt->Nat
 | []=>0
 | none::st=>unb st+1
 | some _::st=>unb st
theorem Eg:∀ (st:bt) (n:Nat) (t:T),st[n]?=some none->unb (st.set n (some t))+1=unb st
 | [],n,t,h=>by simp at h
 | x::st,0,t,h=>by
  simp only [List.getElem?_cons_zero,Option.some.injEq] at h
  subst h
  rfl
 | x::st,n+1,t,h=>by
  have h':st[n]?=some none:=by simpa using h
  have:=Eg st n t h'
  cases x <;> simp only [List.set_cons_succ,unb] <;> omega
open Classical in
theorem Good.set {N:Nat} {st:bt} (h:Good N st) {n:Nat} {t:T} (hn:st[n]?=some none) (ht:okU N t) (hw:wT t<=1048576) (ho:¬ CA st n t):Good N (st.set n (some t)):=by
 have hnl:n<st.length:=(List.getElem?_eq_some_iff.1 hn).1
 refine ⟨by rw [List.length_set]; exact h.len,fun u hu=>?_,fun u hu=>?_,?_⟩
 ·rcases List.mem_or_eq_of_mem_set hu with hu|hu
  ·exact h.ok u hu
  ·rw [Option.some.injEq] at hu
   rw [hu]; exact ht
 ·rcases List.mem_or_eq_of_mem_set hu with hu|hu
  ·exact h.w u hu
  ·rw [Option.some.injEq] at hu
   rw [hu]; exact hw
 ·obtain ⟨r,hr⟩:=h.rk
  have hM:∀ l:List Nat,∃ M,∀ m∈l,r m<=M:=by
   intro l
   induction l with
   | nil=>exact ⟨0,by simp⟩
   | cons x l ih=>
    obtain ⟨M,hM⟩:=ih
    refine ⟨M+r x,fun m hm=>?_⟩
    rcases List.mem_cons.1 hm with rfl|hm
    ·omega
    ·have:=hM m hm; omega
  obtain ⟨M,hM⟩:=hM (vT t)
  refine ⟨fun m=>if Rch st m n then r m+M+1 else r m,fun k u hku m hm=>?_⟩
  by_cases hkn:n=k
  ·subst hkn
   rw [List.getElem?_set_self hnl,Option.some.injEq,Option.some.injEq] at hku
   subst hku
   have h1:¬ Rch st m n:=fun e=>ho ⟨m,hm,e⟩
   have h2:=hM m hm
   simp only [if_neg h1,if_pos (Rch.refl (st:=st) n)]
   omega
  ·rw [List.getElem?_set_ne hkn] at hku
   have h1:=hr k u hku m hm
   by_cases hmn:Rch st m n
   ·have h2:Rch st k n:=.step hku hm hmn
    simp only [if_pos hmn,if_pos h2]
    omega
   ·simp only [if_neg hmn]
    split <;> omega
/- unification -/
inductive Job where
 | one (a b:T)
 | list (xs ys:List T)
inductive Uni:bt->Job->Bool->bt->Prop
 | same {st:bt} {a b a' b':T}:gE st a a'->gE st b b'->a'.kind=1->b'.kind=1->a'.n=b'.n->Uni st (.one a b) true st
 | bindA {st:bt} {a b a' b':T}:gE st a a'->gE st b b'->a'.kind=1->¬ (b'.kind=1/\a'.n=b'.n)->¬ CA st a'.n.toNat b'->Uni st (.one a b) true (st.set a'.n.toNat (some b'))
 | occA {st:bt} {a b a' b':T}:gE st a a'->gE st b b'->a'.kind=1->¬ (b'.kind=1/\a'.n=b'.n)->CA st a'.n.toNat b'->Uni st (.one a b) false st
 | bindB {st:bt} {a b a' b':T}:gE st a a'->gE st b b'->a'.kind≠1->b'.kind=1->¬ CA st b'.n.toNat a'->Uni st (.one a b) true (st.set b'.n.toNat (some a'))
 | occB {st:bt} {a b a' b':T}:gE st a a'->gE st b b'->a'.kind≠1->b'.kind=1->CA st b'.n.toNat a'->Uni st (.one a b) false st
 | clash {st:bt} {a b a' b':T}:gE st a a'->gE st b b'->a'.kind≠1->b'.kind≠1->lk a' b'=false->Uni st (.one a b) false st
 | kids {st st':bt} {a b a' b':T} {r:Bool}:gE st a a'->gE st b b'->a'.kind≠1->b'.kind≠1->lk a' b'=true->Uni st (.list a'.kids b'.kids) r st'->Uni st (.one a b) r st'
 | nil {st:bt}:Uni st (.list [] []) true st
 | stop {st st':bt} {a b:T} {xs ys:List T}:Uni st (.one a b) false st'->Uni st (.list (a::xs) (b::ys)) false st'
 | go {st st1 st':bt} {a b:T} {xs ys:List T} {r:Bool}:Uni st (.one a b) true st1->Uni st1 (.list xs ys) r st'->Uni st (.list (a::xs) (b::ys)) r st'
def okJ (N:Nat):Job->Prop
 | .one a b=>(okU N a/\wT a<=1048576)/\(okU N b/\wT b<=1048576)
 | .list xs ys=>(∀ a∈xs,okU N a/\wT a<=1048576)/\(∀ b∈ys,okU N b/\wT b<=1048576)/\xs.length=ys.length
theorem xN {N:Nat} {t:T} (h:okU N t/\wT t<=1048576):∀ x∈t.kids,okU N x/\wT x<=1048576:=by
 intro x hx
 refine ⟨Gc h.1.kids x hx,?_⟩
 have h1:=jS hx
 have h2:=h.2
 cases t
 rw [wT] at h2
 simp only [T.kids] at h1
 omega
theorem EI {a b:T} (h:lk a b=true):a.kids.length=b.kids.length:=by
 rw [lk] at h
 simp only [Bool.and_eq_true,decide_eq_true_eq] at h
 exact h.2.2.2
theorem Eo {N:Nat} {st:bt} (h:Good N st) {a:T} (hk:a.kind=1) (hl:D0 st a=none) (ho:okU N a):st[a.n.toNat]?=some none:=by
 obtain ⟨h0,h1,_⟩:=ho.var hk
 rcases JM.1 hl hk with e|e
 ·have:=List.getElem?_eq_none_iff.1 e
  have:=h.len
  omega
 ·exact e
theorem Uni.good {N:Nat} {st st':bt} {j:Job} {r:Bool} (hu:Uni st j r st'):Good N st->okJ N j->Good N st'/\(st'=st ∨ unb st'<unb st):=by
 induction hu with
 | same=>exact fun h _=>⟨h,.inl rfl⟩
 | occA=>exact fun h _=>⟨h,.inl rfl⟩
 | occB=>exact fun h _=>⟨h,.inl rfl⟩
 | clash=>exact fun h _=>⟨h,.inl rfl⟩
 | nil=>exact fun h _=>⟨h,.inl rfl⟩
 | bindA ha hb hk hns ho=>
  rename_i a' b'
  intro h hj
  have h1:=kl h ha hj.1
  have h2:=kl h hb hj.2
  have hf:=Eo h hk (BA ha) h1.1
  have:=Eg _ _ b' hf
  exact ⟨h.set hf h2.1 h2.2 ho,.inr (by omega)⟩
 | bindB ha hb hns hk ho=>
  rename_i a' b'
  intro h hj
  have h1:=kl h ha hj.1
  have h2:=kl h hb hj.2
  have hf:=Eo h hk (BA hb) h2.1
  have:=Eg _ _ a' hf
  exact ⟨h.set hf h1.1 h1.2 ho,.inr (by omega)⟩
 | kids ha hb _ _ hd _ ih=>
  intro h hj
  exact ih h ⟨xN (kl h ha hj.1),xN (kl h hb hj.2),EI hd⟩
 | stop _ ih=>
  intro h hj
  exact ih h ⟨hj.1 _ (List.mem_cons_self ..),hj.2.1 _ (List.mem_cons_self ..)⟩
 | go _ _ ih1 ih2=>
  intro h hj
  obtain ⟨h1,h2⟩:=ih1 h ⟨hj.1 _ (List.mem_cons_self ..),hj.2.1 _ (List.mem_cons_self ..)⟩
  obtain ⟨h3,h4⟩:=ih2 h1 ⟨fun a ha=>hj.1 a (List.mem_cons_of_mem _ ha),fun b hb=>hj.2.1 b (List.mem_cons_of_mem _ hb),by have:=hj.2.2; simpa using this⟩
  refine ⟨h3,?_⟩
  rcases h2 with rfl|h2
  ·exact h4
  ·rcases h4 with rfl|h4
   ·exact .inr h2
   ·exact .inr (by omega)
/- resolved terms -/
end Go.Proofs.YtemmhhdnlbmicaaGreat

/- Terms drawn: literal lists, appends in any order, spec.l1Draw, l1Some, l1Mutate: what is drawn is readable and light. -/
namespace Go.Proofs.YtemmhhdnlbmicaaGreat
open Go Go.RowKit
theorem LE {b:Bool} {n:Nat} (h:b=decide (1<=n)) (h':b=false):n=0:=by
 rw [h',eq_comm,decide_eq_false_iff_not] at h; omega
theorem u1 {a b:Bool} {k n:Nat} (h:a=decide (k<=n)) (ha:a=true) (h':b=decide (k+1<=n)) (hb:b=false):n=k:=by
 rw [ha,eq_comm,decide_eq_true_iff] at h
 rw [hb,eq_comm,decide_eq_false_iff_not] at h'
 omega
theorem LO {b:Bool} {n m:Nat} (hl:n<=m) (h:b=decide (m<=n)) (hb:b=true):n=m:=by
 rw [hb,eq_comm,decide_eq_true_iff] at h; omega
theorem LG {b l:Bool} {n m:Nat} (h:b=decide (m<=n)) (k:b=true->l=true) (hl:l=false):n<m:=by
 cases b
 ·rw [eq_comm,decide_eq_false_iff_not] at h; omega
 ·rw [k rfl] at hl; cases hl
def KJ:List (Nat × Value)->List ByteArray
 | (_,.string s)::l=>s::KJ l
 | _=>[]
def Lr:List (Nat × Value)->List Int
 | (_,.int _ n)::l=>n::Lr l
 | _=>[]
theorem Ks {α:Type} {f:α->Value} (l:List α) {i:Nat} (hi:i<l.length):bw (l.map f).toArray i 1=[f l[i]]:=by
 rw [bw,List.drop_eq_getElem_cons (by simpa using hi)]
 simp
theorem RdSl.monoU {S S':aF} {v:Value} {ys:List Nat} (hs:Sle S S') (h:RdSl S 1 jK v ys):RdSl S' 1 jK v ys:=h.mono hs fun _ _ h=>h
theorem MA {S:aF} {b:Nat} {E:TypeId} {cs:List Value} {t:T} (hS:S b=some (.cells cs.toArray E)) (h:RdT S cs t):RdSl S 4 (RdT S) (.slice (some ⟨b,0,none⟩) 1 1) [t]:=by
 refine ⟨_,1,rfl,Nat.le_refl _,by simp [maxLen],.inr ⟨b,0,_,E,(0,0),rfl,hS,fun i hi=>?_⟩⟩
 match i,hi with
 | 0,_=>
  have e:bw cs.toArray (0+0 * 4) 4=cs:=by
   rw [bw]
   simpa using List.take_of_length_le (Nat.le_of_eq h.length)
  rw [e]
  exact h
section
variable {w0 w:World} {X:List Nat} {L A:List Item} {S:aF} {K:Value->World->Prop}
attribute [local irreducible] Run CondV ah be
theorem Inv.last (h:Inv w0 X L S w) (i:Nat) {it:Item} (hi:L[i]?=some it):Inv w0 X (L.eraseIdx i++[it]) S w:=by
 refine h.perm ?_
 obtain ⟨h1,_⟩:=uX hi it
 rw [List.eraseIdx_eq_take_drop_succ]
 conv=>rhs; rw [h1]
 rw [List.append_assoc]
 exact List.Perm.append_left _ List.perm_append_comm
theorem tW {n:Nat} {ps:List (Nat × Value)} (h:Inv w0 X L S w)
  (hr:(aS Cs n ps).run Tryz.prog w=.ok (.value (.slice (some ⟨w.heap.size,0,none⟩) n n)) { w with heap:=w.heap.push (.cells ((KJ ps).map Value.string).toArray iA) })
  (hn:(KJ ps).length=n) (hm:n<=1000) (hk:∀ v S1 w',Ext w0.heap.size X S S1->RdSl S1 1 sK v (KJ ps)->Inv w0 X L S1 w'->K v w'):Run Tryz.prog (aS Cs n ps) w K:=by
 refine qd (v:=fun b=>.slice (some ⟨b,0,none⟩) n n) (o:=.cells ((KJ ps).map Value.string).toArray iA) h hr fun b w' hI=>?_
 obtain ⟨S1,hI,hE,hS⟩:=hI.pub1
 refine hk _ S1 w' hE ?_ hI
 exact RdSl.ofCells hS hn (by simp only [maxLen]; omega) fun i hi=>Ks _ hi
theorem yN {n:Nat} {ps:List (Nat × Value)} (h:Inv w0 X L S w)
  (hr:(aS qE n ps).run Tryz.prog w=.ok (.value (.slice (some ⟨w.heap.size,0,none⟩) n n)) { w with heap:=w.heap.push (.cells ((Lr ps).map (Value.int .i64)).toArray fu) })
  (hn:(Lr ps).length=n) (hm:n<=1000) (hk:∀ v S1 w',Ext w0.heap.size X S S1->RdSl S1 1 oi v (Lr ps)->Inv w0 X L S1 w'->K v w'):Run Tryz.prog (aS qE n ps) w K:=by
 refine qd (v:=fun b=>.slice (some ⟨b,0,none⟩) n n) (o:=.cells ((Lr ps).map (Value.int .i64)).toArray fu) h hr fun b w' hI=>?_
 obtain ⟨S1,hI,hE,hS⟩:=hI.pub1
 refine hk _ S1 w' hE ?_ hI
 exact RdSl.ofCells hS hn (by simp only [maxLen]; omega) fun i hi=>Ks _ hi
def od (Q:Prop) (R:Nat->Prop):Nat->Prop
 | 0=>Q
 | n+1=>R n
/- one value drawn by a call, put behind a row: the stages -/
def xi (w0:World) (X:List Nat) (b:Nat) (c:Array Value) (d:Nat) (E:TypeId) (kv:Value) (css:List (List Value)) (A:Nat->List Item) (Q:List Value->Nat->aF->Prop) (xv xs xa:Value) (w':World):Nat->Prop
 | 0=>∃ p1 S1 cs,Q cs p1 S1/\(cs.length=4/\∀ u∈cs,u.oneCell'=true)/\xv=.agg cs.toArray/\Inv w0 X (.blk b (.cells c E)::bh kv ab 4 css::A p1) S1 w'
 | 1=>∃ p1 S1 cs b8,Q cs p1 S1/\(cs.length=4/\∀ u∈cs,u.oneCell'=true)/\xs=.slice (some ⟨b8,0,none⟩) 1 1/\Inv w0 X (.blk b (.cells c E)::bh kv ab 4 css::(A p1++[.blk b8 (.cells cs.toArray ab)])) S1 w'
 | 2=>∃ p1 S1 cs,Q cs p1 S1/\(cs.length=4/\∀ u∈cs,u.oneCell'=true)/\Inv w0 X (.blk b (.cells c E)::bh xa ab 4 (css++[cs])::A p1) S1 w'
 | 3=>∃ p1 S1 cs,Q cs p1 S1/\(cs.length=4/\∀ u∈cs,u.oneCell'=true)/\Inv w0 X (.blk b (.cells (c.setIfInBounds d xa) E)::bh xa ab 4 (css++[cs])::A p1) S1 w'
 | _=>False
variable {b d:Nat} {c:Array Value} {E:TypeId} {kv:Value} {css:List (List Value)} {F:Nat->List Item} {Q:List Value->Nat->aF->Prop} {xv xs xa:Value}
theorem DA {n:Nat} (h:xi w0 X b c d E kv css F Q xv xs xa w n) (hn:n<3):w.cell? ⟨b,d,none⟩=c[d]?:=by
 rcases n with _|_|_|n
 ·obtain ⟨p1,S1,cs,_,_,_,hI⟩:=h
  exact hI.cellL (i:=0) rfl
 ·obtain ⟨p1,S1,cs,b8,_,_,_,hI⟩:=h
  exact hI.cellL (i:=0) rfl
 ·obtain ⟨p1,S1,cs,_,_,hI⟩:=h
  exact hI.cellL (i:=0) rfl
 ·omega
theorem ap1 {B:Prop} (h:od B (xi w0 X b c d E kv css F Q xv xs xa w) 1) (hk:∀ u w',od B (xi w0 X b c d E kv css F Q xv u xa w') 2->K u w'):Run Tryz.prog (aS ce 1 [(0,xv)]) w K:=by
 obtain ⟨p1,S1,cs,hQ,hl,rfl,hI⟩:=h
 refine eN hI bK (by simp [Value.cells,hl.1]) (by omega) (by omega) fun b8 w' hI=>?_
 exact hk _ _ ⟨p1,S1,cs,b8,hQ,hl,rfl,hI⟩
theorem ap2 {B:Prop} {ty:TypeId} {bs:List Bool} (h:od B (xi w0 X b c d E kv css F Q xv xs xa w) 2) (hfit:css.length<=1000000) (hk:∀ u w',od B (xi w0 X b c d E kv css F Q xv xs u w') 3->K u w'):Run Tryz.prog (aq .append #[ce,ce] ty bs [kv,xs]) w K:=by
 obtain ⟨p1,S1,cs,b8,hQ,hl,rfl,hI⟩:=h
 have hblk:(Item.blk b (.cells c E)::bh kv ab 4 css::(F p1++[.blk b8 (.cells cs.toArray ab)]))[(F p1).length+1+1]?=some (.blk b8 (.cells cs.toArray ab)):=by
  rw [List.getElem?_cons_succ,List.getElem?_cons_succ,List.getElem?_append_right (Nat.le_refl _),Nat.sub_self]; rfl
 refine fy hI 1 cs bK (by omega) rfl (by rw [hl.1]) (m:=1) (o:=0) ?_ hl.2 (by omega) (by omega) fun v' w_ hI=>?_
 ·intro i u hi
  rw [hI.cellL hblk,Nat.zero_add]
  simpa using hi
 rw [fS] at hI
 refine hk _ _ ⟨p1,S1,cs,hQ,hl,?_⟩
 exact hI.sub (((List.sublist_append_left _ _).cons_cons _).cons_cons _)
theorem ap3 {B:Prop} {ty:TypeId} (h:od B (xi w0 X b c d E kv css F Q xv xs xa w) 3) (hd:d<c.size) {K:Value->World->Prop} (hk:∀ w',od B (xi w0 X b c d E kv css F Q xv xs xa w') 4->K undef w'):Run Tryz.prog (sOp (.store ce (.const (.pointer (some ⟨b,d,none⟩))) (.const xa)) ty) w K:=by
 obtain ⟨p1,S1,cs,hQ,hl,hI⟩:=h
 obtain ⟨va,vn,vc,hv9⟩:=Inv.rowSlice hI 1 rfl
 refine fg hI 0 (n:=1) (by rw [hv9]; rfl) (by decide +kernel) rfl (by omega) (by rw [hv9]; simp [Value.cells,Value.oneCell']) fun w_ hI=>?_
 have hcl9:Value.cells xa=#[xa]:=by rw [hv9]; rfl
 have e:bu c d (Value.cells xa).toList=c.setIfInBounds d xa:=by
  rw [hcl9]
  apply Array.toList_inj.1
  simp only [bu,Array.toList_setIfInBounds]
  have hl:d<c.toList.length:=by simpa using hd
  rw [List.set_eq_take_append_cons_drop,if_pos hl]
  simp
 rw [e] at hI
 exact hk _ ⟨p1,S1,cs,hQ,hl,hI⟩
end
/- how much a drawn term weighs, and how far the reader has gone -/
abbrev dW (d:Nat):Nat:=6 * 3 ^ d
theorem Lc (d:Nat):6<=dW d:=by
 have:0<3 ^ d:=Nat.pow_pos (by omega)
 simp only [dW]; omega
theorem L3 (d:Nat):dW (d+1)=3 * dW d:=by simp only [dW,Nat.pow_succ]; omega
abbrev My (br:Nat) (sl:Value) (p d:Nat):Value->List Item->aF->Prop:=fun v I' S'=>∃ p',p'+2<=p+dW d/\I'=[rdI br sl p']/\∃ cs t,v=.agg cs.toArray/\RdT S' cs t/\wT t+3<=dW d/\okU 26 t
end Go.Proofs.YtemmhhdnlbmicaaGreat
