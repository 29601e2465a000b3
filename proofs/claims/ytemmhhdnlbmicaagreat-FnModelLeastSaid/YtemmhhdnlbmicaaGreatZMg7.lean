/- Clauses and programs read: spec.l4Text, FormatClause, l4Goals, ParseClause, l18Cut, ParseProgram. -/
import Derived.Test.YtemmhhdnlbmicaaGreatZMg6
import Derived.Test.YtemmhhdnlbmicaaGreatZMg1
import Derived.Test.YtemmhhdnlbmicaaGreatZMg2
namespace Go.Proofs.YtemmhhdnlbmicaaGreat
open Go Go.RowKit
theorem vD:∀ (f:Nat) (l:List T) (b:Bool) (out x:Bs),wN f l b out=some x->out.length<=x.length
 | _,[],_,out,x,h=>by simp only [wN,Option.some.injEq] at h; subst h; exact Nat.le_refl _
 | f,t::l,b,out,x,h=>by
  rw [wN] at h
  split at h
  ·cases h
  ·have:=vD f _ _ _ _ h
   simp only [List.length_append] at this
   omega
section
variable {w0 w:World} {X:List Nat} {L:List Item} {S:az} {P:Program} {K:Value->World->Prop}
attribute [local irreducible] Run CondV aj bd
theorem H7 (h:Inv w0 X L S w) {T ty e:TypeId} {by_:Nat} {z v x:Value} {cs:List Bool} {css:List (List Value)} (i:Nat)
  (hT:oG P T=some (e,1,by_,z)) (hi:L[i]?=some (bj v e 1 css)) (hx:x.cells=#[x]) (h1:x.oneCell'=true) (hfit:css.length+1<=4294967296) (hby:by_<=32768)
  (hk:∀ v' w',Inv w0 X (L.set i (bj v' e 1 (css++[[x]]))) S w'->K v' w') :
  Run P (aS T 1 [(0,x)]) w fun u w'=>Run P (ar .append #[T,T] ty cs [v,u]) w' K:=by
 refine fb h hT (by rw [hx]; rfl) (by omega) (by omega) fun b w' hI=>?_
 have hil:i<L.length:=(List.getElem?_eq_some_iff.1 hi).1
 refine fo hI i [x] hT (by omega) (by rw [List.getElem?_append_left hil]; exact hi) (by simp) (m:=1) (o:=0) ?_ (by simpa using h1) hfit hby fun v' w' hI=>?_
 ·intro j u hj
  rw [hI.cellL (i:=L.length) (by rw [List.getElem?_append_right (Nat.le_refl _),Nat.sub_self]; rfl)]
  rw [Nat.zero_add,hx]
  simpa using hj
 ·refine hk _ _ ?_
  rw [<- fW]
  rw [List.set_append_left _ _ hil] at hI
  exact hI.sub (List.sublist_append_left _ _)
end
section
variable {S:az}
attribute [local irreducible] Run CondV aj bd
theorem Fb {f:Nat} (hf:f<=100) {c:C} {cs:List Value} {x:Bs} (h:RdC S cs c) (hx:Jz f c=some x) (hl:x.length<=1000000):Pure Tryz.prog H5 [.agg cs.toArray] S (.string (st x)):=by
 intro w hI
 obtain ⟨hd,ks,rfl,h1,h2⟩:=h
 have h1':=h1
 obtain ⟨kv,rfl,_⟩:=RdT.iff.1 h1
 unfold Jz at hx
 split at hx
 ·cases hx
 rename_i y hy
 split at hx
 ·cases hx
 rename_i z hz
 simp only [Option.some.injEq] at hx
 have hzx:z.length+1=x.length:=by rw [<- hx,List.length_append]; rfl
 have hyz:=vD _ _ _ _ _ hz
 have hb:c.body.length<=9223372036854775807:=by have:=h2.le; simpa [maxLen] using this
 refine z6 ?_
 unfold vV
 refine bM hI fun b1 w' hI=>?_
 have hI:Inv w [] [.blk b1 (.cells #[.int .i64 c.head.kind,.int .i64 c.head.n,.string c.head.name,kv,ks] aR)] S w':=hI
 refine bh dh ?_
 refine fe hI 0 [.int .i64 c.head.kind,.int .i64 c.head.n,.string c.head.name,kv] ai rfl rfl Lk ?_
 refine Run.callPure gj gk hI (Cv hf _ y S _ hy (by omega) h1') fun w' hI=>?_
 refine ⟨fun a b w'=>∃ (j:Nat) (out:Bs),j<=c.body.length/\a=.int .i64 (j:Int)/\b=.string (st out)/\wN f (c.body.drop j) (decide (j=0)) out=some z/\Inv w [] [.blk b1 (.cells #[.int .i64 c.head.kind,.int .i64 c.head.n,.string c.head.name,kv,ks] aR)] S w',
  fun a _ _=>c.body.length - (intOf a).toNat,⟨0,y,Nat.zero_le _,rfl,rfl,hz,hI⟩,?_⟩
 intro t4 _ _ _ _ _ _ _ _ _ _ _ _ t3 _ _ _ _ _ _ _ _ _ w'
 rintro ⟨j,out,hj,rfl,rfl,hbf,hI⟩
 refine aI hI 0 rfl bq aP rfl ?_
 refine a9 h2 av ?_
 refine bR ?_
 refine bk (fun hji=>?_) (fun hji=>?_)
 ·have hj':j<c.body.length:=by omega
  rw [List.drop_eq_getElem_cons hj',wN] at hbf
  split at hbf
  ·cases hbf
  rename_i u hu
  have hlen:=vD _ _ _ _ _ hbf
  simp only [List.length_append] at hlen
  obtain ⟨pre,hpre⟩:∃ pre:Bs,pre=if decide (j=0)=true then [58,45] else [44]:=⟨_,rfl⟩
  rw [<- hpre] at hbf hlen
  refine ⟨fun b w'=>b=.string (st (out++pre))/\Inv w [] [.blk b1 (.cells #[.int .i64 c.head.kind,.int .i64 c.head.n,.string c.head.name,kv,ks] aR)] S w',?_,?_⟩
  ·refine bO ?_
   refine bk (fun h0=>?_) (fun h0=>?_)
   ·rw [if_pos (decide_eq_true (by omega))] at hpre
    subst hpre
    refine dO (b:=[58,45]) (by omega) ?_
    exact ⟨rfl,hI⟩
   ·rw [if_neg (by rw [decide_eq_true_eq]; omega)] at hpre
    subst hpre
    refine dO (b:=[44]) (by omega) ?_
    exact ⟨rfl,hI⟩
  intro _ _ t3 _ _ _ _ w'
  rintro ⟨rfl,hI⟩
  refine aI hI 0 rfl bq aP rfl ?_
  refine dG hI h2 av ai hj' (fun _ _=>RdT.length) fun es hes=>?_
  refine Run.callPure gj gk hI (Cv hf _ u S _ hu (by omega) hes) fun w' hI=>?_
  refine dO (by rw [List.length_append]; omega) ?_
  refine bL (by omega) ?_
  refine ⟨⟨j+1,out++pre++u,hj',rfl,rfl,?_,hI⟩,by simp only [intOf,Int.toNat_natCast]; omega⟩
  rw [decide_eq_false (by omega)]
  exact hbf
 ·have:j=c.body.length:=by omega
  subst this
  rw [List.drop_length,wN] at hbf
  simp only [Option.some.injEq] at hbf
  subst hbf
  refine dO (b:=[46]) (by simp only [List.length_cons,List.length_nil]; omega) ?_
  exact done hI (by rw [<- hx])
theorem qS {f:Nat} (hf:f<=100) {c:C} {cs:List Value} {x:Bs} (h:RdC S cs c) (hc:dD c=true) (hw:wC c<=1048576) (hx:Jz f c=some x) (hl:x.length<=1000000):Pure Tryz.prog vC [.agg cs.toArray] S (.string (st x)):=by
 intro w hI
 have h0:=h
 obtain ⟨hd,ks,rfl,h1,h2⟩:=h
 obtain ⟨kv,rfl,_⟩:=RdT.iff.1 h1
 refine ox ?_
 unfold kP
 refine bM hI fun b1 w' hI=>?_
 refine ba hI 0 bF rfl rfl ?_
 refine Run.callPure lN mi hI (jX h0 hw) fun w' hI=>?_
 refine cF ?_
 rw [hc]
 refine a8 (fun hb=>by cases hb) (fun _=>?_)
 refine ba hI 0 bF rfl rfl ?_
 refine Run.callPure Fv GB hI (Fb hf h0 hx hl) fun w' hI=>?_
 exact done hI rfl
theorem BD {f k:Nat} {s:Bs} {i:Nat} {ts:List T} {n:Nat} (h:rj f k s i []=some (ts,n)) (hs:s.length<=100000) (hi:i<=s.length):Tri Tryz.prog GT [.string (st s),.int .i64 (i:Int)] [] S (Ng ts n):=by
 intro w hI
 refine yj ?_
 unfold tB
 refine eB hI bD fun v0 w' hI=>?_
 refine ⟨fun a b w'=>∃ (k' i':Nat) (acc:List T) (S1:az) (css:List (List Value)),a=.int .i64 (i':Int)/\i'<=s.length/\rj f k' s i' acc=some (ts,n)/\Ext w.heap.size [] S S1/\Rows 4 (RdT S1) css acc/\(∃ p m,b=.slice p acc.length m)/\Inv w [] [bj b ab 4 css] S1 w',
  fun a _ _=>s.length+1 - (intOf a).toNat,⟨k,i,[],S,[],rfl,hi,h,Ext.refl _ _ _,Rows.nil _ _,?_,hI⟩,?_⟩
 ·have hI2:Inv w [] ([]++[bj v0 ab 4 []]) S w':=hI
  obtain ⟨S1,_,hrd,_⟩:=Inv.lendExt hI2
  obtain ⟨p,m,e,_⟩:=RowRd.rows (Rows.nil 4 (RdT S)) hrd
  exact ⟨p,m,e⟩
 intro t1 _ _ _ _ _ _ _ _ t6 _ _ _ _ _ _ _ _ _ _ _ _ _ _ _ _ _ _ _ w'
 rintro ⟨k',i',acc,S1,css,rfl,hi2,hT,hE,hR,⟨p,m,rfl⟩,hI⟩
 have hcl:=hR.hc
 cases k' with
 | zero=>simp [rj] at hT
 | succ g=>
 rw [rj] at hT
 split at hT
 ·cases hT
 rename_i h6
 split at hT
 ·cases hT
 rename_i t n' hr
 have hle:=(gL f).1 _ _ _ _ _ _ hr
 refine fx av ?_
 refine zS (by omega) ?_
 refine a8 (fun _=>?_) (fun hb=>by cases hb)
 refine Run.call0E gq gi hI (CG f s i' 30 3 t n' S1 hr hs hi2 (by omega) (by omega)) fun v I' S2 w'=>?_
 rintro ⟨rfl,cs,rfl,hcs⟩ hE2 hI
 have hR2:=hR.monoR fun _ _ h=>RdT.mono hE2.1 h
 obtain ⟨kv,rfl,_,_,_,a,q,rfl,_⟩:=RdT.iff.1 hcs
 refine bb (v:=.agg _) rfl ?_
 refine bb (v:=.int .i64 (n':Int)) rfl ?_
 refine bw hI bG fun b13 w' hI=>?_
 refine bf hI 1 rfl ai rfl rfl (by simp [Value.oneCell']) fun w' hI=>?_
 refine eD (by omega) ?_
 refine a8 (fun hb=>by cases hb) (fun _=>?_)
 refine ba hI 1 ai rfl rfl ?_
 refine fX (css:=css) hI 0 _ bD (by omega) (by omega) rfl hcs.length hcs.one (by omega) (by omega) fun v' w' hI=>?_
 have hI:Inv w [] [bj v' ab 4 (css++[[.int .i64 t.kind,.int .i64 t.n,.string t.name,.slice a t.kids.length q]])] S2 w':=hI.pick [true,false]
 have hR3:=hR2.snoc hcs hcs.length
 have hI2:Inv w [] ([]++[bj v' ab 4 (css++[[.int .i64 t.kind,.int .i64 t.n,.string t.name,.slice a t.kids.length q]])]) S2 w':=hI
 obtain ⟨S3,hE3,hrd,hI3⟩:=Inv.lendExt hI2
 have hrs:=RowRd.rows (hR3.monoR fun _ _ h=>RdT.mono hE3.1 h) hrd
 refine Run.callPure cU cT hI (cB s n' 44 S2) fun w' hI=>?_
 refine cF ?_
 split at hT
 ·rename_i h44
  rw [h44]
  refine a8 (fun hb=>by cases hb) (fun _=>?_)
  have:=gf h44
  refine ev (a:=n') (b:=1) rfl rfl (by omega) ?_
  obtain ⟨p',m',e',_⟩:=hrs
  refine ⟨⟨g,n'+1,acc++[t],S2,_,rfl,by omega,hT,hE.trans hE2,hR3,⟨p',m',e'⟩,hI⟩,?_⟩
  simp only [intOf,Int.toNat_natCast]
  omega
 ·rename_i h44
  rw [Bool.eq_false_iff.2 h44]
  refine a8 (fun _=>?_) (fun hb=>by cases hb)
  simp only [Option.some.injEq,Prod.mk.injEq] at hT
  obtain ⟨rfl,rfl⟩:=hT
  have hI2:Inv w [] ([]++[bj v' ab 4 (css++[[.int .i64 t.kind,.int .i64 t.n,.string t.name,.slice a t.kids.length q]])]) S2 w':=hI
  obtain ⟨S4,hE4,hrd,hI⟩:=Inv.lendExt hI2
  have hrs:=RowRd.rows (hR3.monoR fun _ _ h=>RdT.mono hE4.1 h) hrd
  exact ⟨_,[],S4,rfl,hI,(hE.trans hE2).trans hE4,rfl,_,rfl,hrs⟩
abbrev Ol (c:C) (b:Bool):Value->List Item->az->Prop:=fun v I' S'=>I'=[]/\∃ cs,v=.tuple #[.agg cs.toArray,.bool b]/\RdC S' cs c
theorem sO {f:Nat} (hf:f<=100) {s:Bs} {c:C} (h:tz f s=some c):Tri Tryz.prog xS [.string (st s)] [] S (Ol c true):=by
 intro w hI
 refine qg ?_
 unfold l8;dsimp only
 unfold tz at h
 split at h
 ·cases h
 rename_i hs
 split at h
 ·cases h
 rename_i hd n hr
 have hle:=(gL f).1 _ _ _ _ _ _ hr
 have hfin:∃ b n2,c=⟨hd,b⟩/\KZ f s c n2=some c/\((sgn s n 58=true/\sgn s (n+1) 45=true/\rj f 8 s (n+2) []=some (b,n2)) ∨ (¬ (sgn s n 58=true/\sgn s (n+1) 45=true)/\b=[]/\n2=n)):=by
  have hcc:∀ (c':C) (m:Nat),KZ f s c' m=some c->c'=c:=fun c' m h=>by
   unfold KZ at h
   split at h
   ·exact Option.some.inj h
   ·cases h
  split at h
  ·rename_i h58
   split at h
   ·cases h
   rename_i b n2 hg
   have e:=hcc _ _ h
   subst e
   exact ⟨b,n2,rfl,h,.inl ⟨h58.1,h58.2,hg⟩⟩
  ·rename_i h58
   have e:=hcc _ _ h
   subst e
   exact ⟨[],n,rfl,h,.inr ⟨h58,rfl,rfl⟩⟩
 clear h
 obtain ⟨b,n2,rfl,hfin,hcase⟩:=hfin
 unfold KZ at hfin
 split at hfin
 case isFalse=>cases hfin
 rename_i hq
 obtain ⟨hq1,hq2,hq3,hq4,hq5⟩:=hq
 clear hfin
 refine bw hI eI fun b2 w' hI=>?_
 refine fA bg ?_
 refine ki (by omega) ?_
 refine a8 (fun hb=>by cases hb) (fun _=>?_)
 refine Run.call0E gq gi hI (CG f s 0 30 3 hd n S hr (by omega) (by omega) (by omega) (by omega)) fun v I' S1 w'=>?_
 rintro ⟨rfl,cs,rfl,hcs⟩ hE1 hI
 obtain ⟨kv,rfl,_,_,_,a,q,rfl,_⟩:=RdT.iff.1 hcs
 refine bb (v:=.agg _) rfl ?_
 refine bb (v:=.int .i64 (n:Int)) rfl ?_
 refine bw hI bG fun b4 w' hI=>?_
 refine bf hI 1 rfl ai rfl rfl (by simp [Value.oneCell']) fun w' hI=>?_
 refine eD (by omega) ?_
 refine a8 (fun hb=>by cases hb) (fun _=>?_)
 refine ba hI 1 ai rfl rfl ?_
 refine k0 ?_
 refine bw hI eI fun b6 w' hI=>?_
 refine bf hI 2 rfl bF rfl rfl (by simp [Value.oneCell']) fun w' hI=>?_
 obtain ⟨B2,hB2⟩:∃ B2,B2=Item.blk b2 (.cells #[.int .i64 0,.int .i64 0,.string ⟨#[]⟩,.slice none 0 0,.slice none 0 0] aR):=⟨_,rfl⟩
 obtain ⟨B4,hB4⟩:∃ B4,B4=Item.blk b4 (.cells #[.int .i64 hd.kind,.int .i64 hd.n,.string hd.name,.slice a hd.kids.length q] ab):=⟨_,rfl⟩
 have hI:Inv w [] [B2,B4,.blk b6 (.cells #[.int .i64 hd.kind,.int .i64 hd.n,.string hd.name,.slice a hd.kids.length q,.slice none 0 0] aR)] S1 w':=by rw [hB2,hB4]; exact hI
 refine ⟨fun v w'=>∃ (kb:Value) (S2:az),v=.int .i64 (n2:Int)/\Ext w.heap.size [] S S2/\RdT S2 [.int .i64 hd.kind,.int .i64 hd.n,.string hd.name,.slice a hd.kids.length q] hd/\RdSl S2 4 (RdT S2) kb b/\
   Inv w [] [B2,B4,.blk b6 (.cells #[.int .i64 hd.kind,.int .i64 hd.n,.string hd.name,.slice a hd.kids.length q,kb] aR)] S2 w',?_,?_⟩
 ·refine ⟨fun v w'=>v=.bool (sgn s n 58 && sgn s (n+1) 45)/\Inv w [] [B2,B4,.blk b6 (.cells #[.int .i64 hd.kind,.int .i64 hd.n,.string hd.name,.slice a hd.kids.length q,.slice none 0 0] aR)] S1 w',?_,?_⟩
  ·refine Run.callPure cU cT hI (cB s n 58 S1) fun w' hI=>?_
   cases h58:sgn s n 58
   ·repeat (first|refine ad ?_|refine af (by decide) ?_|refine ac ?_|refine ah ?_|refine ag ?_)
    exact ⟨by rw [Bool.false_and],hI⟩
   ·repeat (first|refine ad ?_|refine af (by decide) ?_|refine ac ?_|refine ah ?_|refine ag ?_)
    refine ev (a:=n) (b:=1) rfl rfl (by omega) ?_
    refine Run.callPure cU cT hI (cB s (n+1) 45 S1) fun w' hI=>?_
    repeat (first|refine ad ?_|refine af (by decide) ?_|refine ac ?_|refine ah ?_|refine ag ?_)
    exact ⟨by rw [Bool.true_and],hI⟩
  intro t29 _ _ _ _ _ _ _ _ w'
  rintro ⟨rfl,hI⟩
  rcases hcase with ⟨h1,h2,hg⟩|⟨h1,rfl,rfl⟩
  ·rw [h1,h2]
   refine a8 (fun _=>?_) (fun hb=>by cases hb)
   have h3:=gf h2
   refine ev (a:=n) (b:=2) rfl rfl (by omega) ?_
   refine Run.call0E EC Dy hI (BD hg (by omega) (by omega)) fun v I' S2 w'=>?_
   rintro ⟨rfl,u,rfl,hu⟩ hE2 hI
   obtain ⟨p,m,rfl,_⟩:=id hu
   refine bb (v:=.slice p b.length m) rfl ?_
   refine bb (v:=.int .i64 (n2:Int)) rfl ?_
   refine jL hI 2 rfl bq aP rfl rfl rfl fun w' hI=>?_
   exact ⟨_,S2,rfl,hE1.trans hE2,RdT.mono hE2.1 hcs,hu,hI⟩
  ·have e:(sgn s n2 58 && sgn s (n2+1) 45)=false:=by
    rw [Bool.eq_false_iff,ne_eq,Bool.and_eq_true]; exact h1
   rw [e]
   refine a8 (fun hb=>by cases hb) (fun _=>?_)
   exact ⟨_,S1,rfl,hE1,hcs,iM S1,hI⟩
 intro t5 _ _ _ _ _ _ _ _ _ _ _ _ _ _ _ _ _ w'
 rintro ⟨kb,S2,rfl,hE2,hhd,hb,hI⟩
 have hC:RdC S2 [.int .i64 hd.kind,.int .i64 hd.n,.string hd.name,.slice a hd.kids.length q,kb] ⟨hd,b⟩:=⟨[.int .i64 hd.kind,.int .i64 hd.n,.string hd.name,.slice a hd.kids.length q],kb,rfl,hhd,hb⟩
 refine ⟨fun v w'=>v=.bool false/\Inv w [] [B2,B4,.blk b6 (.cells #[.int .i64 hd.kind,.int .i64 hd.n,.string hd.name,.slice a hd.kids.length q,kb] aR)] S2 w',?_,?_⟩
 ·refine fA bg ?_
  refine qz (by omega) ?_
  refine gn ?_
  rw [decide_eq_true (show (n2:Int)=(s.length:Int) - 1 by omega)]
  refine ad (b:=false) ?_
  refine Run.callPure cU cT hI (cB s n2 46 S2) fun w' hI=>?_
  refine cF ?_
  rw [hq2]
  refine ag ?_
  refine ad (b:=false) ?_
  refine ba hI 2 bF rfl rfl ?_
  refine Run.callPure sK si hI (qS hf hC hq3 (by omega) hq5 (by omega)) fun w' hI=>?_
  refine JB ?_
  rw [decide_eq_true rfl]
  refine ag ?_
  exact ⟨rfl,hI⟩
 intro t54 _ _ _ _ _ _ _ _ _ _ _ _ _ _ _ _ w'
 rintro ⟨rfl,hI⟩
 refine a8 (fun hb=>by cases hb) (fun _=>?_)
 refine ba hI 2 bF rfl rfl ?_
 refine Run.call0E vP xf hI (EA hC (by omega)) fun v I' S3 w'=>?_
 rintro ⟨rfl,ds,M,rfl,rfl,hT⟩ hE3 hI
 obtain ⟨S4,hI,hE4,hins⟩:=hI.pubExt
 have hR4:=hT.rd hins
 have hl5:=hR4.length
 have h15:=hT.one
 subst hB2
 refine bf hI 0 rfl bF (by simpa using hl5) rfl (by simpa using h15) fun w' hI=>?_
 refine bZ hI 0 bF rfl (by simpa using hl5) ?_
 exact ⟨_,[],S4,rfl,hI.nil,(hE2.trans hE3).trans hE4,rfl,_,rfl,hR4⟩
def NQ (cs:List Value) (l:Bs):Prop:=cs=[.string (st l)]
theorem Ez (s:Bs) (c:Nat) (hs:s.length<=100000):Tri Tryz.prog IV [.string (st s),.int .u8 (c:Int)] [] S fun v I' S'=>I'=[]/\RdSl S' 1 NQ v (Cp s c s.length 0 0 []):=by
 intro w hI
 refine A5 ?_
 unfold wz
 refine eB hI z7 fun v0 w' hI=>?_
 obtain ⟨R,hR⟩:∃ R,R=Cp s c s.length 0 0 []:=⟨_,rfl⟩
 rw [<- hR]
 refine ⟨fun t u v w'=>∃ (i fr:Nat) (acc:List Bs) (css:List (List Value)),t=.int .i64 (i:Int)/\u=.int .i64 (fr:Int)/\acc.length<=i/\((i<=s.length/\fr<=i/\Cp s c (s.length - i) i fr acc=R) ∨ (i=s.length+1/\acc=R))/\Rows 1 NQ css acc/\Inv w [] [bj v iV 1 css] S w',
  fun t _ _ _=>s.length+2 - (intOf t).toNat,⟨0,0,[],[],rfl,rfl,Nat.le_refl _,.inl ⟨Nat.zero_le _,Nat.le_refl _,hR.symm⟩,Rows.nil _ _,hI⟩,?_⟩
 intro t7 _ _ t6 _ _ t5 _ _ _ _ _ _ _ _ _ _ _ _ _ _ _ _ _ _ _ _ _ _ w'
 rintro ⟨i,fr,acc,css,rfl,rfl,hal,hc,hRw,hI⟩
 have hcl:=hRw.hc
 refine fA bg ?_
 refine fK ?_
 refine bk (fun hi=>?_) (fun hi=>?_)
 ·have hi':i<=s.length:=by omega
  obtain ⟨_,hfr,hcut⟩:i<=s.length/\fr<=i/\Cp s c (s.length - i) i fr acc=R:=by
   rcases hc with h|h
   ·exact h
   ·omega
  obtain ⟨br,hbr⟩:∃ br,br=(decide (i=s.length) || sgn s i c):=⟨_,rfl⟩
  refine ⟨fun u v w'=>∃ (fr':Nat) (acc':List Bs) (css':List (List Value)),u=.int .i64 (fr':Int)/\acc'.length<=i+1/\fr'<=i+1/\acc'=(if br=true then acc++[cut s fr i] else acc)/\fr'=(if br=true then i+1 else fr)/\Rows 1 NQ css' acc'/\Inv w [] [bj v iV 1 css'] S w',?_,?_⟩
  ·refine ⟨fun b w'=>b=.bool br/\Inv w [] [bj t5 iV 1 css] S w',?_,?_⟩
   ·refine fA bg ?_
    by_cases he:i=s.length
    ·refine fM (by omega) ?_
     repeat (first|refine ad ?_|refine af (by decide) ?_|refine ac ?_|refine ah ?_|refine ag ?_)
     exact ⟨by rw [hbr,decide_eq_true he,Bool.true_or],hI⟩
    ·refine er (by omega) ?_
     repeat (first|refine ad ?_|refine af (by decide) ?_|refine ac ?_|refine ah ?_|refine ag ?_)
     have hlt:i<s.length:=by omega
     refine ec bg hlt ?_
     refine bO ?_
     repeat (first|refine ad ?_|refine af (by decide) ?_|refine ac ?_|refine ah ?_|refine ag ?_)
     refine ⟨?_,hI⟩
     rw [hbr,decide_eq_false he,Bool.false_or,g5 hlt]
     congr 1
     rw [decide_eq_decide]
     omega
   intro t25 _ _ _ _ _ _ _ _ _ _ w'
   rintro ⟨rfl,hI⟩
   refine a8 (fun hb=>?_) (fun hb=>?_)
   ·refine za bg hfr hi' ?_
    refine H7 (css:=css) hI 0 z7 rfl rfl rfl (by omega) (by omega) fun v' w' hI=>?_
    refine ev (a:=i) (b:=1) rfl rfl (by omega) ?_
    refine ⟨i+1,acc++[cut s fr i],_,rfl,by rw [List.length_append]; simp only [List.length_cons,List.length_nil]; omega,Nat.le_refl _,by rw [if_pos hb],by rw [if_pos hb],hRw.snoc rfl rfl,hI⟩
   ·exact ⟨fr,acc,css,rfl,by omega,by omega,by rw [if_neg (by rw [hb]; decide)],by rw [if_neg (by rw [hb]; decide)],hRw,hI⟩
  intro t6 _ _ t5 _ _ _ _ _ _ _ _ _ _ _ _ _ _ _ _ _ _ w'
  rintro ⟨fr',acc',css',rfl,hal',hfr',hacc',hfe,hRw',hI⟩
  refine ev (a:=i) (b:=1) rfl rfl (by omega) ?_
  refine ⟨⟨i+1,fr',acc',css',rfl,rfl,hal',?_,hRw',hI⟩,by simp only [intOf,Int.toNat_natCast]; omega⟩
  by_cases he:i=s.length
  ·right
   refine ⟨by rw [he],?_⟩
   rw [he,Nat.sub_self,Cp,<- he] at hcut
   rw [hacc',if_pos (by rw [hbr,decide_eq_true he,Bool.true_or])]
   exact hcut
  ·left
   refine ⟨by omega,hfr',?_⟩
   rw [show s.length - i=(s.length - (i+1))+1 by omega,Cp] at hcut
   rw [hbr,decide_eq_false he,Bool.false_or] at hacc' hfe
   split at hcut
   ·rename_i hsg
    rw [if_pos hsg] at hacc' hfe
    rw [hacc',hfe]
    exact hcut
   ·rename_i hsg
    rw [if_neg hsg] at hacc' hfe
    rw [hacc',hfe]
    exact hcut
 ·obtain ⟨_,rfl⟩:i=s.length+1/\acc=R:=by
   rcases hc with h|h
   ·omega
   ·exact h
  have hI2:Inv w [] ([]++[bj t5 iV 1 css]) S w':=hI
  obtain ⟨S1,hE1,hrd,hI⟩:=Inv.lendExt hI2
  exact ⟨_,[],S1,rfl,hI,hE1,rfl,RowRd.rows hRw hrd⟩
theorem Cm {f:Nat} {ls:List Bs} {i:Nat} (h:i<ls.length) (acc:List C):kj f (ls.drop i) acc=match tz f ls[i] with
  | none=>none
  | some c=>kj f (ls.drop (i+1)) (acc++[c]):=by
 rw [List.drop_eq_getElem_cons h,kj]
 cases tz f ls[i] <;> rfl
theorem qR {f:Nat} (hf:f<=100) {s:Bs} {p:List C} (h:JK f s=some p) (hs:s.length<=100000):Tri Tryz.prog mm [.string (st s)] [] S fun v I' S'=>∃ u css,v=.tuple #[u,.bool true]/\I'=[bj u aR 5 css]/\Rows 5 (RdC S') css p:=by
 intro w hI
 refine oO ?_
 unfold kS
 unfold JK LB at h
 refine eB hI i8 fun v0 w' hI=>?_
 refine Run.call0E Hc Fz hI (Ez s 10 hs) fun v I' S1 w'=>?_
 rintro ⟨rfl,hls⟩ hE1 hI
 have hI:Inv w [] [bj v0 aR 5 []] S1 w':=hI
 obtain ⟨ls,hlsd⟩:∃ ls,ls=Cp s 10 s.length 0 0 []:=⟨_,rfl⟩
 rw [<- hlsd] at hls h
 simp only [] at h
 split at h
 ·cases h
 rename_i hc
 simp only [not_or,ne_eq,Classical.not_not] at hc
 obtain ⟨hc1,hc2⟩:=hc
 have hl0:0<ls.length:=by
  cases ls with
  | nil=>simp at hc2
  | cons a l=>simp
 have hlast:ls[ls.length - 1]=[]:=by
  rw [List.getLast?_eq_getElem?,List.getElem?_eq_getElem (by omega)] at hc2
  exact Option.some.inj hc2
 refine ⟨fun b w'=>b=.bool false/\Inv w [] [bj v0 aR 5 []] S1 w',?_,?_⟩
 ·refine a9 hls cG ?_
  refine ki (by omega) ?_
  repeat (first|refine ad ?_|refine af (by decide) ?_|refine ac ?_|refine ah ?_|refine ag ?_)
  refine a9 hls cG ?_
  refine uG (a:=ls.length) (b:=1) rfl rfl (by omega) (by omega) ?_
  have hlt:ls.length - 1<ls.length:=by omega
  obtain ⟨b,o,cap,c,E,fz,hv,hS,hR⟩:=hls.at_ hlt
  subst hv
  refine bi cG hlt ?_
  refine dM bl ((hI.cellS hS).trans (bm hR 0 _ rfl)) ?_
  refine JB (b:=[]) ?_
  rw [decide_eq_true hlast]
  repeat (first|refine ad ?_|refine af (by decide) ?_|refine ac ?_|refine ah ?_|refine ag ?_)
  exact ⟨rfl,hI⟩
 intro t23 _ _ _ _ _ _ _ _ _ _ _ w'
 rintro ⟨rfl,hI⟩
 refine a8 (fun hb=>by cases hb) (fun _=>?_)
 refine ⟨fun a b w'=>∃ (i:Nat) (acc:List C) (S2:az) (css:List (List Value)),a=.int .i64 (i:Int)/\i+1<=ls.length/\acc.length=i/\kj f (ls.dropLast.drop i) acc=some p/\Sle S1 S2/\Ext w.heap.size [] S S2/\Rows 5 (RdC S2) css acc/\Inv w [] [bj b aR 5 css] S2 w',
  fun a _ _=>ls.length - (intOf a).toNat,⟨0,[],S1,[],rfl,by omega,rfl,h,Sle.refl _,hE1,Rows.nil _ _,hI⟩,?_⟩
 intro t6 _ _ t4 _ _ _ _ _ _ _ _ _ _ _ _ _ _ _ _ _ _ _ _ _ _ _ _ w'
 rintro ⟨i,acc,S2,css,rfl,hi,hal,hcl,hle2,hE2,hR,hI⟩
 have hcs:=hR.hc
 refine ev (a:=i) (b:=1) rfl rfl (by omega) ?_
 refine a9 hls cG ?_
 refine bR ?_
 have hdl:ls.dropLast.length=ls.length - 1:=List.length_dropLast
 refine bk (fun hlt=>?_) (fun hge=>?_)
 ·have hi':i<ls.length:=by omega
  have hi2:i<ls.dropLast.length:=by omega
  rw [Cm hi2] at hcl
  have eg:ls.dropLast[i]=ls[i]:=List.getElem_dropLast _
  rw [eg] at hcl
  obtain ⟨b,o,cap,c,E,fz,hv,hS,hRr⟩:=hls.at_ hi'
  subst hv
  split at hcl
  ·cases hcl
  rename_i cl hclf
  refine bi cG hi' ?_
  refine dM bl ((hI.cellS (hle2 _ _ hS)).trans (bm hRr 0 _ rfl)) ?_
  refine Run.call0E uF uL hI (sO hf hclf) fun v I' S3 w'=>?_
  rintro ⟨rfl,ds,rfl,hds⟩ hE3 hI
  have hl5:=hds.length
  have hR3:=hR.monoR fun _ _ h=>RdC.mono hE3.1 h
  refine bb (v:=.agg ds.toArray) rfl ?_
  refine bb (v:=.bool true) rfl ?_
  refine bw hI eI fun b7 w' hI=>?_
  refine bf hI 1 rfl bF (by simpa using hl5) rfl (by simpa using hds.one) fun w' hI=>?_
  refine cF ?_
  refine a8 (fun hb=>by cases hb) (fun _=>?_)
  refine ba hI 1 bF rfl (by simpa using hl5) ?_
  refine fX (css:=css) hI 0 _ i8 (by omega) (by omega) rfl hl5 hds.one (by omega) (by omega) fun v' w' hI=>?_
  have hI:Inv w [] [bj v' aR 5 (css++[ds])] S3 w':=hI.pick [true,false]
  refine ev (a:=i) (b:=1) rfl rfl (by omega) ?_
  exact ⟨⟨i+1,acc++[cl],S3,_,rfl,by omega,by rw [List.length_append,hal]; rfl,hcl,hle2.trans hE3.1,hE2.trans hE3,hR3.snoc hds hl5,hI⟩,by simp only [intOf,Int.toNat_natCast]; omega⟩
 ·have hi2:ls.dropLast.length<=i:=by omega
  rw [List.drop_eq_nil_of_le hi2,kj] at hcl
  simp only [Option.some.injEq] at hcl
  subst hcl
  exact ⟨_,_,S2,rfl,hI,hE2,_,css,rfl,rfl,hR⟩
end
end Go.Proofs.YtemmhhdnlbmicaaGreat

/- Whether terms are the same: both sides. -/
namespace Go.Proofs.YtemmhhdnlbmicaaGreat
open Go Go.RowKit
attribute [local irreducible] Run CondV aj bd

def l5 (t u:T):Bool:=decide (t.kind=u.kind) && (decide (t.n=u.n) && (decide (t.name=u.name) && decide (t.kids.length=u.kids.length)))
theorem fk (k n k' n':Int) (s s':ByteArray) (ks ks':List T):l5 (.mk k n s ks) (.mk k' n' s' ks')=(decide (k=k') && (decide (n=n') && (decide (s=s') && decide (ks.length=ks'.length)))):=rfl
theorem LZ {α β:Type} (a:List α) (b:List β):decide (a.length=b.length)=decide ((a.length:Int)=(b.length:Int)):=by
 rw [Bool.eq_iff_iff]
 simp only [decide_eq_true_eq]
 omega
theorem Nj (t u:T):eqT t u=(l5 t u && eqL t.kids u.kids):=by
 obtain ⟨k,n,s,ks⟩:=t
 obtain ⟨k',n',s',ks'⟩:=u
 rw [eqT,fk]
 by_cases h:ks.length=ks'.length
 ·rw [decide_eq_true h,Bool.and_true,Bool.and_assoc,Bool.and_assoc]; rfl
 ·rw [Jt h,decide_eq_false h]; simp
theorem ik:∀ (t u:T) (S:az) (cs ds:List Value),RdT S cs t->RdT S ds u->Pure Tryz.prog EJ [.agg cs.toArray,.agg ds.toArray] S (.bool (eqT t u)):=by
 refine T.ind fun k n s ks ih u S cs ds h h'=>?_
 intro w hI
 obtain ⟨kv,rfl,_,_,_,hks⟩:=RdT.iff.1 h
 obtain ⟨kv',rfl,_,_,_,hks'⟩:=RdT.iff.1 h'
 obtain ⟨k',n',s',ks'⟩:=u
 simp only [T.name,T.kids,T.kind,T.n] at hks hks' ⊢
 have hlen:=hks.le
 simp only [maxLen] at hlen
 refine uJ ?_
 unfold qy;dsimp only
 refine bM hI fun b1 w' hI=>?_
 refine bM hI fun b2 w' hI=>?_
 have hI:Inv w [] [.blk b1 (.cells #[.int .i64 k,.int .i64 n,.string s,kv] ab),.blk b2 (.cells #[.int .i64 k',.int .i64 n',.string s',kv'] ab)] S w':=hI
 refine ⟨fun q w'=>q=.bool (!l5 (.mk k n s ks) (.mk k' n' s' ks'))/\Inv w [] [.blk b1 (.cells #[.int .i64 k,.int .i64 n,.string s,kv] ab),.blk b2 (.cells #[.int .i64 k',.int .i64 n',.string s',kv'] ab)] S w',?_,?_⟩
 ·refine aI hI 0 rfl bx bn rfl ?_
  refine aI hI 1 rfl bx bn rfl ?_
  refine gn ?_
  by_cases e1:k=k'
  ·rw [decide_eq_true e1]
   repeat (first|refine ad ?_|refine af (by decide) ?_|refine ac ?_|refine ah ?_|refine ag ?_)
   refine aI hI 0 rfl bJ bn rfl ?_
   refine aI hI 1 rfl bJ bn rfl ?_
   refine gn ?_
   by_cases e2:n=n'
   ·rw [decide_eq_true e2]
    repeat (first|refine ad ?_|refine af (by decide) ?_|refine ac ?_|refine ah ?_|refine ag ?_)
    refine aI hI 0 rfl bo bl rfl ?_
    refine aI hI 1 rfl bo bl rfl ?_
    refine rC ?_
    by_cases e3:s=s'
    ·rw [decide_eq_true e3]
     repeat (first|refine ad ?_|refine af (by decide) ?_|refine ac ?_|refine ah ?_|refine ag ?_)
     refine aI hI 0 rfl aT aP rfl ?_
     refine a9 hks av ?_
     refine aI hI 1 rfl aT aP rfl ?_
     refine a9 hks' av ?_
     refine gn ?_
     repeat (first|refine ad ?_|refine af (by decide) ?_|refine ac ?_|refine ah ?_|refine ag ?_)
     exact ⟨by rw [fk,decide_eq_true e1,decide_eq_true e2,decide_eq_true e3,LZ]; rfl,hI⟩
    ·rw [decide_eq_false e3]
     repeat (first|refine ad ?_|refine af (by decide) ?_|refine ac ?_|refine ah ?_|refine ag ?_)
     exact ⟨by rw [fk,decide_eq_true e1,decide_eq_true e2,decide_eq_false e3]; rfl,hI⟩
   ·rw [decide_eq_false e2]
    repeat (first|refine ad ?_|refine af (by decide) ?_|refine ac ?_|refine ah ?_|refine ag ?_)
    exact ⟨by rw [fk,decide_eq_true e1,decide_eq_false e2]; rfl,hI⟩
  ·rw [decide_eq_false e1]
   repeat (first|refine ad ?_|refine af (by decide) ?_|refine ac ?_|refine ah ?_|refine ag ?_)
   exact ⟨by rw [fk,decide_eq_false e1]; rfl,hI⟩

 intro q _ _ _ _ _ _ _ _ _ _ _ _ _ _ _ _ _ _ _ _ _ _ _ _ _ _ _ w'
 rintro ⟨rfl,hI⟩
 rw [Nj]
 cases hd:l5 (.mk k n s ks) (.mk k' n' s' ks')
 ·refine a8 (fun _=>done hI rfl) (fun hb=>by cases hb)
 refine a8 (fun hb=>by cases hb) (fun _=>?_)
 have hle:ks.length=ks'.length:=by
  rw [fk] at hd
  simp only [Bool.and_eq_true,decide_eq_true_eq] at hd
  exact hd.2.2.2
 simp only [T.kids,Bool.true_and]
 refine ⟨fun i w'=>∃ j:Nat,j<=ks.length/\i=.int .i64 j/\eqL (ks.drop j) (ks'.drop j)=eqL ks ks'/\Inv w [] [.blk b1 (.cells #[.int .i64 k,.int .i64 n,.string s,kv] ab),.blk b2 (.cells #[.int .i64 k',.int .i64 n',.string s',kv'] ab)] S w',fun i _=>ks.length - (intOf i).toNat,⟨0,Nat.zero_le _,rfl,rfl,hI⟩,?_⟩
 intro t5 _ _ _ _ _ _ _ _ _ _ _ _ _ _ _ _ _ _ _ _ w'
 rintro ⟨j,hj,rfl,hrel,hI⟩
 refine aI hI 0 rfl aT aP rfl ?_
 refine a9 hks av ?_
 refine bR ?_
 refine bk (fun hji=>?_) (fun hji=>?_)
 ·have hj1:j<ks.length:=by omega
  have hj2:j<ks'.length:=by omega
  obtain ⟨c1,o1,cap1,a1,E1,fz1,rfl,hS1,hR1⟩:=hks.at_ hj1
  obtain ⟨c2,o2,cap2,a2,E2,fz2,rfl,hS2,hR2⟩:=hks'.at_ hj2
  have hstep:eqL (ks.drop j) (ks'.drop j)=(eqT ks[j] ks'[j] && eqL (ks.drop (j+1)) (ks'.drop (j+1))):=by
   rw [List.drop_eq_getElem_cons hj1,List.drop_eq_getElem_cons hj2,eqL]
  refine ⟨fun D cP cO cQ cS bT bS cW dr du dq dt dp w_=>(D 0=true->dp=.pointer (some ⟨b1,3,none⟩))/\(D 1=true->dt=.slice (some ⟨c1,o1,none⟩) ks.length cap1)/\(D 2=true->dq=.int .i64 j)/\(D 3=true->du=.pointer (some ⟨c1,o1+j * 4,none⟩))/\(D 4=true->dr=.agg (bu a1 (o1+j * 4) 4).toArray)/\(D 5=true->cW=.pointer (some ⟨b2,3,none⟩))/\(D 6=true->bS=.slice (some ⟨c2,o2,none⟩) ks'.length cap2)/\(D 7=true->bT=.int .i64 j)/\(D 8=true->cS=.pointer (some ⟨c2,o2+j * 4,none⟩))/\(D 9=true->cQ=.agg (bu a2 (o2+j * 4) 4).toArray)/\(D 10=true->cO=.bool (eqT ks[j] ks'[j]))/\(D 11=true->cP=.bool (!eqT ks[j] ks'[j]))/\Inv w [] [.blk b1 (.cells #[.int .i64 k,.int .i64 n,.string s,.slice (some ⟨c1,o1,none⟩) ks.length cap1] ab),.blk b2 (.cells #[.int .i64 k',.int .i64 n',.string s',.slice (some ⟨c2,o2,none⟩) ks'.length cap2] ab)] S w_,⟨ae,ae,ae,ae,ae,ae,ae,ae,ae,ae,ae,ae,hI.draw⟩,⟨?_,?_,?_,?_,?_,?_,?_,?_,?_,?_,?_,?_,trivial⟩,?_⟩
  ·intro D aY  cP cO cQ cS bT bS cW dr du dq dt dp w_
   rintro ⟨aA,aB,aC,aD,aw,aE,aF,aJ,aL,aQ,al,ao,hI⟩
   refine bh aT ?_
   exact ⟨fun _=>rfl,aB,aC,aD,aw,aE,aF,aJ,aL,aQ,al,ao,hI⟩
  ·intro D aY cc cP cO cQ cS bT bS cW dr du dq dt dp w_
   rintro ⟨aA,aB,aC,aD,aw,aE,aF,aJ,aL,aQ,al,ao,hI⟩
   obtain rfl:=aA cc
   refine bH hI 0 aP rfl rfl ?_
   exact ⟨aA,fun _=>rfl,aC,aD,aw,aE,aF,aJ,aL,aQ,al,ao,hI⟩
  ·intro D aY  cP cO cQ cS bT bS cW dr du dq dt dp w_
   rintro ⟨aA,aB,aC,aD,aw,aE,aF,aJ,aL,aQ,al,ao,hI⟩
   exact ⟨aA,aB,fun _=>rfl,aD,aw,aE,aF,aJ,aL,aQ,al,ao,hI⟩
  ·intro D aY dC gA cP cO cQ cS bT bS cW dr du dq dt dp w_
   rintro ⟨aA,aB,aC,aD,aw,aE,aF,aJ,aL,aQ,al,ao,hI⟩
   obtain rfl:=aB dC
   obtain rfl:=aC gA
   refine bi av hj1 ?_
   exact ⟨aA,aB,aC,fun _=>rfl,aw,aE,aF,aJ,aL,aQ,al,ao,hI⟩
  ·intro D aY dB cP cO cQ cS bT bS cW dr du dq dt dp w_
   rintro ⟨aA,aB,aC,aD,aw,aE,aF,aJ,aL,aQ,al,ao,hI⟩
   obtain rfl:=aD dB
   refine cV ai hR1.length (fun j v hj=>by rw [hI.cellS hS1]; exact bm rfl j v hj) ?_
   exact ⟨aA,aB,aC,aD,fun _=>rfl,aE,aF,aJ,aL,aQ,al,ao,hI⟩
  ·intro D aY  cP cO cQ cS bT bS cW dr du dq dt dp w_
   rintro ⟨aA,aB,aC,aD,aw,aE,aF,aJ,aL,aQ,al,ao,hI⟩
   refine bh aT ?_
   exact ⟨aA,aB,aC,aD,aw,fun _=>rfl,aF,aJ,aL,aQ,al,ao,hI⟩
  ·intro D aY d3 cP cO cQ cS bT bS cW dr du dq dt dp w_
   rintro ⟨aA,aB,aC,aD,aw,aE,aF,aJ,aL,aQ,al,ao,hI⟩
   obtain rfl:=aE d3
   refine bH hI 1 aP rfl rfl ?_
   exact ⟨aA,aB,aC,aD,aw,aE,fun _=>rfl,aJ,aL,aQ,al,ao,hI⟩
  ·intro D aY  cP cO cQ cS bT bS cW dr du dq dt dp w_
   rintro ⟨aA,aB,aC,aD,aw,aE,aF,aJ,aL,aQ,al,ao,hI⟩
   exact ⟨aA,aB,aC,aD,aw,aE,aF,fun _=>rfl,aL,aQ,al,ao,hI⟩
  ·intro D aY c4 jZ cP cO cQ cS bT bS cW dr du dq dt dp w_
   rintro ⟨aA,aB,aC,aD,aw,aE,aF,aJ,aL,aQ,al,ao,hI⟩
   obtain rfl:=aF c4
   obtain rfl:=aJ jZ
   refine bi av hj2 ?_
   exact ⟨aA,aB,aC,aD,aw,aE,aF,aJ,fun _=>rfl,aQ,al,ao,hI⟩
  ·intro D aY jh cP cO cQ cS bT bS cW dr du dq dt dp w_
   rintro ⟨aA,aB,aC,aD,aw,aE,aF,aJ,aL,aQ,al,ao,hI⟩
   obtain rfl:=aL jh
   refine cV ai hR2.length (fun j v hj=>by rw [hI.cellS hS2]; exact bm rfl j v hj) ?_
   exact ⟨aA,aB,aC,aD,aw,aE,aF,aJ,aL,fun _=>rfl,al,ao,hI⟩
  ·intro D aY cR fj cP cO cQ cS bT bS cW dr du dq dt dp w_
   rintro ⟨aA,aB,aC,aD,aw,aE,aF,aJ,aL,aQ,al,ao,hI⟩
   obtain rfl:=aw cR
   obtain rfl:=aQ fj
   refine Run.callPure iE iJ hI (ih _ (List.getElem_mem hj1) _ S _ _ hR1 hR2) fun w_ hI=>?_
   exact ⟨aA,aB,aC,aD,aw,aE,aF,aJ,aL,aQ,fun _=>rfl,ao,hI⟩
  ·intro D aY gx cP cO cQ cS bT bS cW dr du dq dt dp w_
   rintro ⟨aA,aB,aC,aD,aw,aE,aF,aJ,aL,aQ,al,ao,hI⟩
   obtain rfl:=al gx
   refine cF ?_
   exact ⟨aA,aB,aC,aD,aw,aE,aF,aJ,aL,aQ,al,fun _=>rfl,hI⟩
  intro D fi fp jt gK fT fY fE fm fw fF fC fD cP cO cQ cS bT bS cW dr du dq dt dp w_
  rintro ⟨aA,aB,aC,aD,aw,aE,aF,aJ,aL,aQ,al,ao,hI⟩
  obtain rfl:=ao fi
  obtain rfl:=al fp
  obtain rfl:=aQ jt
  obtain rfl:=aL gK
  obtain rfl:=aJ fT
  obtain rfl:=aF fY
  obtain rfl:=aE fE
  obtain rfl:=aw fm
  obtain rfl:=aD fw
  obtain rfl:=aC fF
  obtain rfl:=aB fC
  obtain rfl:=aA fD
  clear aA aB aC aD aw aE aF aJ aL aQ al ao
  refine a8 (fun hne=>?_) (fun he'=>?_)
  ·exact done hI (by rw [<- hrel,hstep]; simp at hne; rw [hne]; rfl)
  ·refine bL (by omega) ?_
   refine ⟨⟨j+1,hj1,rfl,?_,hI⟩,by simp [intOf]; omega⟩
   rw [<- hrel,hstep]
   simp at he'
   rw [he',Bool.true_and]
 ·have:j=ks.length:=by omega
  subst this
  refine done hI ?_
  rw [<- hrel,List.drop_length,hle,List.drop_length]
  rfl

end Go.Proofs.YtemmhhdnlbmicaaGreat

/- Whether terms are the same: the program's side. -/
namespace Go.Proofs.YtemmhhdnlbmicaaGreat
open Go Go.RowKit
attribute [local irreducible] Run CondV aj bd

theorem D9 {xs:List T} (ih:∀ t∈xs,∀ (u:T) (S:az) (cs ds:List Value),RdT S cs t->RdT S ds u->Pure Tryz.prog mU [.agg cs.toArray,.agg ds.toArray] S (.bool (eqT t u)))
  {ys:List T} {S:az} {v u:Value} (h:RdSl S 4 (RdT S) v xs) (h':RdSl S 4 (RdT S) u ys):Pure Tryz.prog qO [v,u,.func (.func mU) #[] #[]] S (.bool (eqL xs ys)):=by
 intro w hI
 have hlen:(xs.length:Int)<=9223372036854775807:=by have:=h.le; simp only [maxLen] at this; omega
 refine mQ ?_
 unfold jn
 refine a9 h av ?_
 refine a9 h' av ?_
 refine gn ?_
 refine a8 (fun hne=>?_) (fun he=>?_)
 ·exact done hI (by rw [Jt (by simp at hne; omega)])
 have he:xs.length=ys.length:=by simp at he; omega
 refine a9 h av ?_
 refine ⟨fun i w'=>∃ (k:Nat),k<=xs.length/\i=.int .i64 k/\eqL (xs.drop k) (ys.drop k)=eqL xs ys/\Inv w [] [] S w',fun i _=>xs.length - (intOf i).toNat,⟨0,Nat.zero_le _,rfl,rfl,hI⟩,?_⟩
 intro t5 _ _ _ _ _ _ _ _ _ _ _ _ _ _ _ _ _ _ w'
 rintro ⟨k,hk,rfl,hrel,hI⟩
 refine bR ?_
 refine bk (fun hki=>?_) (fun hki=>?_)
 ·have hk1:k<xs.length:=by omega
  have hk2:k<ys.length:=by omega
  have hstep:eqL (xs.drop k) (ys.drop k)=(eqT xs[k] ys[k] && eqL (xs.drop (k+1)) (ys.drop (k+1))):=by
   rw [List.drop_eq_getElem_cons hk1,List.drop_eq_getElem_cons hk2,eqL]
  refine dG hI h av ai hk1 (fun _ _=>RdT.length) fun cs hcs=>?_
  have hlc:=hcs.length
  refine bw hI bG fun b8 w' hI=>?_
  refine bf hI 0 rfl ai (by simpa using hlc) rfl (by simpa using hcs.one) fun w' hI=>?_
  refine dG hI h' av ai hk2 (fun _ _=>RdT.length) fun ds hds=>?_
  have hld:=hds.length
  refine bw hI bG fun b9 w' hI=>?_
  refine bf hI 1 rfl ai (by simpa using hld) rfl (by simpa using hds.one) fun w' hI=>?_
  refine ba hI 0 ai rfl (by simpa using hlc) ?_
  refine ba hI 1 ai rfl (by simpa using hld) ?_
  refine Run.callPure iC iI hI (ih _ (List.getElem_mem hk1) _ S _ _ hcs hds) fun w' hI=>?_
  refine cF ?_
  refine a8 (fun hne=>?_) (fun he'=>?_)
  ·exact done hI (by rw [<- hrel,hstep]; simp at hne; rw [hne]; rfl)
  ·refine bL (by omega) ?_
   refine ⟨⟨k+1,hk1,rfl,?_,hI.nil⟩,by simp [intOf]; omega⟩
   rw [<- hrel,hstep]
   simp at he'
   rw [he',Bool.true_and]
 ·have:k=xs.length:=by omega
  subst this
  refine done hI ?_
  rw [<- hrel,List.drop_length,he,List.drop_length]
  rfl
theorem iu:∀ (t u:T) (S:az) (cs ds:List Value),RdT S cs t->RdT S ds u->Pure Tryz.prog mU [.agg cs.toArray,.agg ds.toArray] S (.bool (eqT t u)):=by
 refine T.ind fun k n s ks ih u S cs ds h h'=>?_
 intro w hI
 obtain ⟨kv,rfl,_,_,_,hks⟩:=RdT.iff.1 h
 obtain ⟨kv',rfl,_,_,_,hks'⟩:=RdT.iff.1 h'
 obtain ⟨k',n',s',ks'⟩:=u
 simp only [T.name,T.kids,T.kind,T.n] at hks hks' ⊢
 refine vJ ?_
 unfold qB;dsimp only
 refine bM hI fun b1 w' hI=>?_
 refine bM hI fun b2 w' hI=>?_
 refine aI hI 0 rfl bx bn rfl ?_
 refine aI hI 1 rfl bx bn rfl ?_
 refine bO ?_
 by_cases e1:k=k'
 ·rw [decide_eq_true e1]
  repeat (first|refine ad ?_|refine af (by decide) ?_|refine ac ?_|refine ah ?_|refine ag ?_)
  refine aI hI 0 rfl bJ bn rfl ?_
  refine aI hI 1 rfl bJ bn rfl ?_
  refine bO ?_
  by_cases e2:n=n'
  ·rw [decide_eq_true e2]
   repeat (first|refine ad ?_|refine af (by decide) ?_|refine ac ?_|refine ah ?_|refine ag ?_)
   refine aI hI 0 rfl bo bl rfl ?_
   refine aI hI 1 rfl bo bl rfl ?_
   refine cL ?_
   by_cases e3:s=s'
   ·rw [decide_eq_true e3]
    repeat (first|refine ad ?_|refine af (by decide) ?_|refine ac ?_|refine ah ?_|refine ag ?_)
    refine aI hI 0 rfl aT aP rfl ?_
    refine aI hI 1 rfl aT aP rfl ?_
    refine Run.callPure pQ pY hI (D9 ih hks hks') fun w' hI=>?_
    repeat (first|refine ad ?_|refine af (by decide) ?_|refine ac ?_|refine ah ?_|refine ag ?_)
    exact done hI (by rw [eqT,decide_eq_true e1,decide_eq_true e2,decide_eq_true e3]; rfl)
   ·rw [decide_eq_false e3]
    repeat (first|refine ad ?_|refine af (by decide) ?_|refine ac ?_|refine ah ?_|refine ag ?_)
    exact done hI (by rw [eqT,decide_eq_true e1,decide_eq_true e2,decide_eq_false e3]; rfl)
  ·rw [decide_eq_false e2]
   repeat (first|refine ad ?_|refine af (by decide) ?_|refine ac ?_|refine ah ?_|refine ag ?_)
   exact done hI (by rw [eqT,decide_eq_true e1,decide_eq_false e2]; rfl)
 ·rw [decide_eq_false e1]
  repeat (first|refine ad ?_|refine af (by decide) ?_|refine ac ?_|refine ah ?_|refine ag ?_)
  exact done hI (by rw [eqT,decide_eq_false e1]; rfl)

end Go.Proofs.YtemmhhdnlbmicaaGreat

/- Maps from numbers to terms. -/
namespace Go.Proofs.YtemmhhdnlbmicaaGreat
open Go Go.RowKit

theorem vW {n:Int}:∀ (l:List MapEntry) (i:Nat),(∀ e∈l,∃ m,e.key=.int .i64 m)->
  (∃ j,∃ e∈l,e.key=.int .i64 n/\Instr.findNow (.int .i64) (.int .i64 n) l i=some (some (j,e.val))) ∨ ((∀ e∈l,e.key≠.int .i64 n)/\Instr.findNow (.int .i64) (.int .i64 n) l i=some none)
 | [],i,_=>.inr ⟨by simp,rfl⟩
 | e::l,i,h=>by
  obtain ⟨m,hm⟩:=h e (List.mem_cons_self ..)
  have hs:Instr.sameNow (.int .i64) (.int .i64 n) e.key=some (n == m):=by rw [hm]; rfl
  by_cases hnm:n=m
  ·refine .inl ⟨i,e,List.mem_cons_self ..,by rw [hm,hnm],?_⟩
   have:(n == m)=true:=by simpa using hnm
   rw [Instr.findNow,hs,this]
  ·have h2:(n == m)=false:=by simpa using hnm
   rcases vW l (i+1) (fun e he=>h e (List.mem_cons_of_mem _ he)) with ⟨j,e',he',hk,hf⟩|⟨hk,hf⟩
   ·exact .inl ⟨j,e',List.mem_cons_of_mem _ he',hk,by rw [Instr.findNow,hs,h2]; exact hf⟩
   ·refine .inr ⟨fun x hx=>?_,by rw [Instr.findNow,hs,h2]; exact hf⟩
    rcases List.mem_cons.1 hx with rfl|hx
    ·rw [hm]
     intro e'
     simp only [Value.int.injEq,true_and] at e'
     exact hnm e'.symm
    ·exact hk x hx
section
variable {P:Program} {w w0:World} {X:List Nat} {L:List Item} {S:az} {K:Value->World->Prop}
attribute [local irreducible] Run CondV aj bd
theorem gV {kt:TypeId} {d:TypeDesc} {k:Value} {l:List MapEntry} {a:Option (Nat × Value)} (hd:P.underlying kt=some d) (h:Instr.findNow d k l 0=some a):(Instr.findKey kt k l).run P w=.ok a w:=by
 simp [Instr.findKey,run_underlying hd,Result.andThen,h]
theorem Db (h:Inv w0 X L S w) {T ty:TypeId} (hk:∀ b w',Inv w0 X (L++[.blk b (.map #[] 0)]) S w'->K (.map (some b)) w'):Run P (sOp (.makeMap T none) ty) w K:=by
 refine Run.of (v:=.map (some w.heap.size)) (w':={ w with heap:=w.heap.push (.map #[] 0) }) ?_ (hk _ _ (h.alloc _))
 simp [sOp,execOp,Instr.makeMap,newObj,Sem.run]
theorem Gk (h:Inv w0 X L S w) {T kt et ty:TypeId} {b clock:Nat} {es:Array MapEntry} {n:Int} {z v:Value} {ok:Bool} (i:Nat) (hT:P.underlying T=some (.map kt et)) (hkt:P.underlying kt=some (.int .i64))
  (hz:iq P et=some z) (hi:L[i]?=some (.blk b (.map es clock)))
  (hf:(∃ j,Instr.findNow (.int .i64) (.int .i64 n) es.toList 0=some (some (j,v))/\ok=true) ∨ (Instr.findNow (.int .i64) (.int .i64 n) es.toList 0=some none/\v=z/\ok=false))
  (hk:K (.tuple #[v,.bool ok]) w):Run P (sOp (.lookup T (.const (.map (some b))) (.const (.int .i64 n)) true) ty) w K:=by
 have hb:w.heap[b]?=some (.map es clock):=h.its _ (List.mem_of_getElem? hi)
 have hck:∀ e,(Instr.checkKey e 10000 kt (.int .i64 n)).run P w=.ok () w:=fun e=>by
  rw [show (10000:Nat)=9999+1 from rfl,Instr.checkKey]
  simp [run_underlying hkt]
 obtain ⟨inf,hi1,hi2⟩:∃ inf,P.info? et=some inf/\inf.zero=some z:=by
  unfold iq at hz
  cases hinf:P.info? et with
  | none=>rw [hinf] at hz; simp at hz
  | some inf=>rw [hinf] at hz; exact ⟨inf,rfl,by simpa using hz⟩
 have hzv:(zeroValue et).run P w=.ok z w:=by simp [zeroValue,typeInfo,hi1,hi2]
 refine Run.of ?_ hk
 have hg:(getObj b).run P w=.ok (.map es clock) w:=by simp [getObj,Sem.run,hb]
 rcases hf with ⟨j,hf,rfl⟩|⟨hf,rfl,rfl⟩
 ·have hfk:=gV (P:=P) (w:=w) hkt hf
  simp [sOp,execOp,ev0,evE,Instr.lookup,run_underlying hT,hg,hck,hfk]
 ·have hfk:=gV (P:=P) (w:=w) hkt hf
  simp [sOp,execOp,ev0,evE,Instr.lookup,run_underlying hT,hg,hck,hfk,hzv]
theorem L9 (h:Inv w0 X L S w) {T kt et ty:TypeId} {b clock:Nat} {es:Array MapEntry} {n:Int} {v:Value} (i:Nat) (hT:P.underlying T=some (.map kt et)) (hkt:P.underlying kt=some (.int .i64))
  (hi:L[i]?=some (.blk b (.map es clock))) (hf:Instr.findNow (.int .i64) (.int .i64 n) es.toList 0=some none)
  (hk:∀ w',Inv w0 X (L.set i (.blk b (.map (es.push { key:=.int .i64 n,val:=v,born:=clock }) (clock+1)))) S w'->K undef w') :
  Run P (sOp (.mapUpdate T (.const (.map (some b))) (.const (.int .i64 n)) (.const v)) ty) w K:=by
 have hb:w.heap[b]?=some (.map es clock):=h.its _ (List.mem_of_getElem? hi)
 have hck:∀ e,(Instr.checkKey e 10000 kt (.int .i64 n)).run P w=.ok () w:=fun e=>by
  rw [show (10000:Nat)=9999+1 from rfl,Instr.checkKey]
  simp [run_underlying hkt]
 have hg:(getObj b).run P w=.ok (.map es clock) w:=by simp [getObj,Sem.run,hb]
 have hfk:=gV (P:=P) (w:=w) hkt hf
 refine Run.ofSkip (w':={ w with heap:=w.heap.setIfInBounds b (.map (es.push { key:=.int .i64 n,val:=v,born:=clock }) (clock+1)) }) ?_ (hk _ (h.setBlk hi _ rfl))
 have hst:(setObj b (.map (es.push { key:=.int .i64 n,val:=v,born:=clock }) (clock+1))).run P w=.ok () { w with heap:=w.heap.setIfInBounds b (.map (es.push { key:=.int .i64 n,val:=v,born:=clock }) (clock+1)) }:=by simp [setObj,Sem.run,hb]
 simp [sOp,execOp,ev0,evE,Instr.mapUpdate,run_underlying hT,hg,hck,hfk,hst]
end

end Go.Proofs.YtemmhhdnlbmicaaGreat

/- Matching a general term to a special one: the plain form, and spec.l3Match. -/
namespace Go.Proofs.YtemmhhdnlbmicaaGreat
open Go Go.RowKit

abbrev bt:=List (Option T)
mutual
def bK:T->T->bt->Bool × bt
 | .mk k n s ks,u,st=>if k=1 then (match st[n.toNat]? with
   | some (some t)=>(eqT t u,st)
   | _=>(true,st.set n.toNat (some u)))
  else if l5 (.mk k n s ks) u=true then eL ks u.kids st else (false,st)
def eL:List T->List T->bt->Bool × bt
 | [],_,st=>(true,st)
 | _::_,[],st=>(true,st)
 | t::ts,u::us,st=>if (bK t u st).1=true then eL ts us (bK t u st).2 else (false,(bK t u st).2)
end
theorem ws (ts us:List T) (st:bt) (j:Nat) (h:j<ts.length) (h':j<us.length) :
  eL (ts.drop j) (us.drop j) st=if (bK ts[j] us[j] st).1=true then eL (ts.drop (j+1)) (us.drop (j+1)) (bK ts[j] us[j] st).2 else (false,(bK ts[j] us[j] st).2):=by
 rw [List.drop_eq_getElem_cons h,List.drop_eq_getElem_cons h',eL]
/- variables within the table; kinds that are kinds -/
mutual
def okV:T->Prop
 | .mk k n _ ks=>(k=1->0<=n/\n<=25)/\Fp ks
def Fp:List T->Prop
 | []=>True
 | t::ts=>okV t/\Fp ts
end
theorem oB:∀ {ts:List T},Fp ts->∀ t∈ts,okV t
 | _::_,h,t,ht=>by
  rcases List.mem_cons.1 ht with rfl|ht
  ·exact h.1
  ·exact oB h.2 t ht
mutual
def okK:T->Prop
 | .mk k _ _ ks=>k≠0/\Co ks
def Co:List T->Prop
 | []=>True
 | t::ts=>okK t/\Co ts
end
theorem oz:∀ {ts:List T},Co ts->∀ t∈ts,okK t
 | _::_,h,t,ht=>by
  rcases List.mem_cons.1 ht with rfl|ht
  ·exact h.1
  ·exact oz h.2 t ht
theorem HR {t:T} (h:eC t=true):(t.kind=1->0<=t.n/\t.n<=25)/\t.kind≠0:=by
 unfold eC at h
 refine ⟨fun hk=>?_,fun hk=>?_⟩
 ·rw [if_pos hk] at h
  simp only [Bool.and_eq_true,decide_eq_true_eq] at h
  exact ⟨h.1,h.2.1⟩
 ·rw [if_neg (by omega),if_neg (by omega),if_neg (by omega)] at h
  cases h
def u1 (st:bt):Prop:=st.length=26/\∀ t,some t∈st->okK t
theorem LU {st:bt} {n:Nat} {u:T} (h:u1 st) (hu:okK u):u1 (st.set n (some u)):=by
 refine ⟨by rw [List.length_set]; exact h.1,fun t ht=>?_⟩
 rcases List.mem_or_eq_of_mem_set ht with ht|ht
 ·exact h.2 t ht
 ·simp only [Option.some.injEq] at ht
  rw [ht]; exact hu
mutual
theorem ss:∀ (t u:T) (st:bt),u1 st->okK u->u1 (bK t u st).2
 | .mk k n s ks,u,st,h,hu=>by
  rw [bK]
  split
  ·split
   ·exact h
   ·exact LU h hu
  ·split
   ·obtain ⟨k',n',s',ks'⟩:=u
    rw [okK] at hu
    exact Da ks ks' st h hu.2
   ·exact h
theorem Da:∀ (ts us:List T) (st:bt),u1 st->Co us->u1 (eL ts us st).2
 | [],_,st,h,_=>by rw [eL]; exact h
 | _::_,[],st,h,_=>by rw [eL]; exact h
 | t::ts,u::us,st,h,hu=>by
  rw [eL]
  rw [Co] at hu
  split
  ·exact Da ts us _ (ss t u st h hu.1) hu.2
  ·exact ss t u st h hu.1
end
def pI:List Value:=[.int .i64 0,.int .i64 0,.string ⟨#[]⟩,.slice none 0 0]
/- the table of spec.l3Match -/
def KnownC (S:az) (c:Array Value) (st:bt):Prop:=104<=c.size/\∀ i (h:i<st.length),(st[i]=none->bu c (i * 4) 4=pI)/\(∀ t,st[i]=some t->RdT S (bu c (i * 4) 4) t)
theorem KnownC.set {S:az} {c:Array Value} {st:bt} (h:KnownC S c st) {n:Nat} (hn:n<26) {cs:List Value} {u:T} (hu:RdT S cs u):KnownC S (bp c (n * 4) cs) (st.set n (some u)):=by
 have hlc:=hu.length
 have h1:=h.1
 have hs:104<=(bp c (n * 4) cs).size:=by rw [fV _ _ _ (by omega)]; exact h1
 refine ⟨hs,fun i hi=>?_⟩
 rw [List.length_set] at hi
 by_cases e:n=i
 ·subst e
  rw [List.getElem_set_self]
  refine ⟨fun h=>(by cases h),fun t ht=>?_⟩
  simp only [Option.some.injEq] at ht
  subst ht
  have:=gt (c:=c) (o:=n * 4) (vs:=cs) (by omega)
  rw [hlc] at this
  rw [this]
  exact hu
 ·rw [List.getElem_set_ne e,gW (by omega) (by omega)]
  exact h.2 i hi
section
attribute [local irreducible] Run CondV aj bd
abbrev kvn (kb kp:Nat):Value:=.slice (some ⟨kb,0,none⟩) 26 kp
abbrev kv0 (kb:Nat):Value:=kvn kb 26
theorem BI (kp:Nat):∀ (t u:T) (S:az) (cs ds:List Value) (kb:Nat) (kc:Array Value) (st:bt),RdT S cs t->RdT S ds u->okV t->okK u->u1 st->KnownC S kc st->
  Tri Tryz.prog HA [.agg cs.toArray,.agg ds.toArray,kvn kb kp] [.blk kb (.cells kc ab)] S fun r I' S'=>S'=S/\r=.bool (bK t u st).1/\∃ kc',I'=[.blk kb (.cells kc' ab)]/\KnownC S kc' (bK t u st).2:=by
 refine T.ind fun k n s ks ih u S cs ds kb kc st h h' hv hu hst hkc=>?_
 intro w hI
 have hds:=h'
 obtain ⟨kv,rfl,_,_,_,hks⟩:=RdT.iff.1 h
 obtain ⟨kv',rfl,_,_,_,hks'⟩:=RdT.iff.1 h'
 obtain ⟨k',n',s',ks'⟩:=u
 simp only [T.name,T.kids,T.kind,T.n] at hks hks' ⊢
 have hlen:=hks.le
 simp only [maxLen] at hlen
 rw [okV] at hv
 obtain ⟨hv1,hv2⟩:=hv
 have huk:=hu
 rw [okK] at hu
 obtain ⟨X,hX⟩:∃ X,X=bV [Item.blk kb (.cells kc ab)]:=⟨_,rfl⟩
 rw [<- hX] at hI ⊢
 refine yu ?_
 unfold tx;dsimp only
 refine bM hI fun b1 w' hI=>?_
 refine bM hI fun b2 w' hI=>?_
 have hI:Inv w X [.blk b1 (.cells #[.int .i64 k,.int .i64 n,.string s,kv] ab),.blk b2 (.cells #[.int .i64 k',.int .i64 n',.string s',kv'] ab),.blk kb (.cells kc ab)] S w':=hI.perm (by
  refine (List.perm_append_comm (l₁:=[_,_]) (l₂:=[_])).trans ?_
  exact List.Perm.refl _)
 refine aI hI 0 rfl bx bn rfl ?_
 refine bO ?_
 refine bk (fun hk1=>?_) (fun hk1=>?_)
 ·obtain ⟨hn0,hn25⟩:=hv1 hk1
  obtain ⟨j,rfl⟩:∃ j:Nat,n=j:=⟨n.toNat,by omega⟩
  have hj:j<26:=by omega
  have hjs:j<st.length:=by rw [hst.1]; exact hj
  refine aI hI 0 rfl bJ bn rfl ?_
  refine bi av hj ?_
  refine bh bx ?_
  rw [Nat.zero_add,Nat.add_zero]
  obtain ⟨hno,hso⟩:=hkc.2 j hjs
  cases hst2:st[j] with
  | none=>
   have hcell:=hno hst2
   refine bH hI 2 bn rfl (by have:=bm hcell 0 _ rfl; exact this) ?_
   refine gn ?_
   refine a8 (fun hb=>by simp at hb) (fun _=>?_)
   refine aI hI 0 rfl bJ bn rfl ?_
   refine ba hI 1 ai rfl rfl ?_
   refine bi av hj ?_
   rw [Nat.zero_add]
   refine GX hI 2 rfl ai rfl (by have:=hkc.1; exact Nat.ble_eq_true_of_le (by omega)) hds.one fun w' hI=>?_
   have hm:bK (.mk k j s ks) (.mk k' n' s' ks') st=(true,st.set j (some (.mk k' n' s' ks'))):=by
    rw [bK,if_pos hk1,Int.toNat_natCast,List.getElem?_eq_getElem hjs,hst2]
   rw [hm]
   exact ⟨_,_,_,rfl,hI.pick [false,false,true],Ext.refl _ _ _,rfl,rfl,_,rfl,hkc.set hj hds⟩
  | some t0=>
   have hR:=hso t0 hst2
   have hk0:t0.kind≠0:=by
    have:=hst.2 t0 (by rw [<- hst2]; exact List.getElem_mem hjs)
    obtain ⟨a,b,c,d⟩:=t0
    rw [okK] at this
    exact this.1
   obtain ⟨kv0',hcell,_,_,_,_⟩:=RdT.iff.1 hR
   refine bH hI 2 bn rfl (by have:=bm hcell 0 _ rfl; exact this) ?_
   refine gn ?_
   rw [decide_eq_false hk0]
   refine a8 (fun _=>?_) (fun hb=>by cases hb)
   refine ⟨fun D x6 bU cA ce cN cJ b0 dI w_=>(D 0=true->dI=kvn kb kp)/\(D 1=true->b0=.pointer (some ⟨b1,1,none⟩))/\(D 2=true->cJ=.int .i64 j)/\(D 3=true->cN=.pointer (some ⟨kb,j * 4,none⟩))/\(D 4=true->ce=.agg (bu kc (j * 4) 4).toArray)/\(D 5=true->cA=.agg #[.int .i64 k',.int .i64 n',.string s',kv'])/\(D 6=true->bU=.bool (eqT t0 (.mk k' n' s' ks')))/\(D 7=true->x6=.bool (eqT t0 (.mk k' n' s' ks')))/\Inv w X [.blk b1 (.cells #[.int .i64 k,.int .i64 (j:Int),.string s,kv] ab),.blk b2 (.cells #[.int .i64 k',.int .i64 n',.string s',kv'] ab),.blk kb (.cells kc ab)] S w_,⟨ae,ae,ae,ae,ae,ae,ae,ae,hI.draw⟩,⟨?_,?_,?_,?_,?_,?_,?_,?_,trivial⟩,?_⟩
   ·intro D aY  x6 bU cA ce cN cJ b0 dI w_
    rintro ⟨aA,aB,aC,aD,aw,aE,aF,aJ,hI⟩
    exact ⟨fun _=>rfl,aB,aC,aD,aw,aE,aF,aJ,hI⟩
   ·intro D aY  x6 bU cA ce cN cJ b0 dI w_
    rintro ⟨aA,aB,aC,aD,aw,aE,aF,aJ,hI⟩
    refine bh bJ ?_
    exact ⟨aA,fun _=>rfl,aC,aD,aw,aE,aF,aJ,hI⟩
   ·intro D aY dC x6 bU cA ce cN cJ b0 dI w_
    rintro ⟨aA,aB,aC,aD,aw,aE,aF,aJ,hI⟩
    obtain rfl:=aB dC
    refine bH hI 0 bn rfl rfl ?_
    exact ⟨aA,aB,fun _=>rfl,aD,aw,aE,aF,aJ,hI⟩
   ·intro D aY cc gA x6 bU cA ce cN cJ b0 dI w_
    rintro ⟨aA,aB,aC,aD,aw,aE,aF,aJ,hI⟩
    obtain rfl:=aA cc
    obtain rfl:=aC gA
    refine bi av hj ?_; rw [Nat.zero_add]
    exact ⟨aA,aB,aC,fun _=>rfl,aw,aE,aF,aJ,hI⟩
   ·intro D aY dB x6 bU cA ce cN cJ b0 dI w_
    rintro ⟨aA,aB,aC,aD,aw,aE,aF,aJ,hI⟩
    obtain rfl:=aD dB
    refine fe hI 2 (bu kc (j * 4) 4) ai rfl hR.length (fun i v hi=>bm rfl i v hi) ?_
    exact ⟨aA,aB,aC,aD,fun _=>rfl,aE,aF,aJ,hI⟩
   ·intro D aY  x6 bU cA ce cN cJ b0 dI w_
    rintro ⟨aA,aB,aC,aD,aw,aE,aF,aJ,hI⟩
    refine ba hI 1 ai rfl rfl ?_
    exact ⟨aA,aB,aC,aD,aw,fun _=>rfl,aF,aJ,hI⟩
   ·intro D aY cR km x6 bU cA ce cN cJ b0 dI w_
    rintro ⟨aA,aB,aC,aD,aw,aE,aF,aJ,hI⟩
    obtain rfl:=aw cR
    obtain rfl:=aE km
    refine Run.callPure iE iJ hI (ik t0 _ S _ _ hR hds) fun w_ hI=>?_
    exact ⟨aA,aB,aC,aD,aw,aE,fun _=>rfl,aJ,hI⟩
   ·intro D aY c4 ge oI sL ui rQ tD x3 xE x6 bU cA ce cN cJ b0 dI w_
    rintro ⟨aA,aB,aC,aD,aw,aE,aF,aJ,hI⟩
    obtain rfl:=aF c4
    exact ⟨aA,aB,aC,aD,aw,aE,aF,fun _=>rfl,hI⟩
   intro D fT fY fE fm fw fF fC fD x6 bU cA ce cN cJ b0 dI w_
   rintro ⟨aA,aB,aC,aD,aw,aE,aF,aJ,hI⟩
   obtain rfl:=aJ fT
   obtain rfl:=aF fY
   obtain rfl:=aE fE
   obtain rfl:=aw fm
   obtain rfl:=aD fw
   obtain rfl:=aC fF
   obtain rfl:=aB fC
   obtain rfl:=aA fD
   clear aA aB aC aD aw aE aF aJ
   have hm:bK (.mk k j s ks) (.mk k' n' s' ks') st=(eqT t0 (.mk k' n' s' ks'),st):=by
    rw [bK,if_pos hk1,Int.toNat_natCast,List.getElem?_eq_getElem hjs,hst2]
   rw [hm]
   exact ⟨_,_,_,rfl,hI.pick [false,false,true],Ext.refl _ _ _,rfl,rfl,_,rfl,hkc⟩
 refine ⟨fun q w'=>q=.bool (!l5 (.mk k n s ks) (.mk k' n' s' ks'))/\Inv w X [.blk b1 (.cells #[.int .i64 k,.int .i64 n,.string s,kv] ab),.blk b2 (.cells #[.int .i64 k',.int .i64 n',.string s',kv'] ab),.blk kb (.cells kc ab)] S w',?_,?_⟩
 ·refine aI hI 0 rfl bx bn rfl ?_
  refine aI hI 1 rfl bx bn rfl ?_
  refine gn ?_
  by_cases e1:k=k'
  ·rw [decide_eq_true e1]
   repeat (first|refine ad ?_|refine af (by decide) ?_|refine ac ?_|refine ah ?_|refine ag ?_)
   refine aI hI 0 rfl bJ bn rfl ?_
   refine aI hI 1 rfl bJ bn rfl ?_
   refine gn ?_
   by_cases e2:n=n'
   ·rw [decide_eq_true e2]
    repeat (first|refine ad ?_|refine af (by decide) ?_|refine ac ?_|refine ah ?_|refine ag ?_)
    refine aI hI 0 rfl bo bl rfl ?_
    refine aI hI 1 rfl bo bl rfl ?_
    refine rC ?_
    by_cases e3:s=s'
    ·rw [decide_eq_true e3]
     repeat (first|refine ad ?_|refine af (by decide) ?_|refine ac ?_|refine ah ?_|refine ag ?_)
     refine aI hI 0 rfl aT aP rfl ?_
     refine a9 hks av ?_
     refine aI hI 1 rfl aT aP rfl ?_
     refine a9 hks' av ?_
     refine gn ?_
     repeat (first|refine ad ?_|refine af (by decide) ?_|refine ac ?_|refine ah ?_|refine ag ?_)
     exact ⟨by rw [fk,decide_eq_true e1,decide_eq_true e2,decide_eq_true e3,LZ]; rfl,hI⟩
    ·rw [decide_eq_false e3]
     repeat (first|refine ad ?_|refine af (by decide) ?_|refine ac ?_|refine ah ?_|refine ag ?_)
     exact ⟨by rw [fk,decide_eq_true e1,decide_eq_true e2,decide_eq_false e3]; rfl,hI⟩
   ·rw [decide_eq_false e2]
    repeat (first|refine ad ?_|refine af (by decide) ?_|refine ac ?_|refine ah ?_|refine ag ?_)
    exact ⟨by rw [fk,decide_eq_true e1,decide_eq_false e2]; rfl,hI⟩
  ·rw [decide_eq_false e1]
   repeat (first|refine ad ?_|refine af (by decide) ?_|refine ac ?_|refine ah ?_|refine ag ?_)
   exact ⟨by rw [fk,decide_eq_false e1]; rfl,hI⟩

 intro q _ _ _ _ _ _ _ _ _ _ _ _ _ _ _ _ _ _ _ _ _ _ _ _ _ _ _ w'
 rintro ⟨rfl,hI⟩
 cases hd:l5 (.mk k n s ks) (.mk k' n' s' ks')
 ·refine a8 (fun _=>?_) (fun hb=>by cases hb)
  have hm:bK (.mk k n s ks) (.mk k' n' s' ks') st=(false,st):=by rw [bK,if_neg hk1,if_neg (by rw [hd]; decide)]
  rw [hm]
  exact ⟨_,_,_,rfl,hI.pick [false,false,true],Ext.refl _ _ _,rfl,rfl,_,rfl,hkc⟩
 refine a8 (fun hb=>by cases hb) (fun _=>?_)
 have hle:ks.length=ks'.length:=by
  rw [fk] at hd
  simp only [Bool.and_eq_true,decide_eq_true_eq] at hd
  exact hd.2.2.2
 have hm:bK (.mk k n s ks) (.mk k' n' s' ks') st=eL ks ks' st:=by rw [bK,if_neg hk1,if_pos hd]; rfl
 rw [hm]
 have hu2:=hu.2
 refine ⟨fun i w'=>∃ (j:Nat) (st':bt) (kc':Array Value),j<=ks.length/\i=.int .i64 j/\eL (ks.drop j) (ks'.drop j) st'=eL ks ks' st/\u1 st'/\KnownC S kc' st'/\Inv w X [.blk b1 (.cells #[.int .i64 k,.int .i64 n,.string s,kv] ab),.blk b2 (.cells #[.int .i64 k',.int .i64 n',.string s',kv'] ab),.blk kb (.cells kc' ab)] S w',fun i _=>ks.length - (intOf i).toNat,⟨0,st,kc,Nat.zero_le _,rfl,rfl,hst,hkc,hI⟩,?_⟩
 intro t5 _ _ _ _ _ _ _ _ _ _ _ _ _ _ _ _ _ _ _ _ _ w'
 rintro ⟨j,st',kc',hj,rfl,hrel,hst',hkc',hI⟩
 refine aI hI 0 rfl aT aP rfl ?_
 refine a9 hks av ?_
 refine bR ?_
 refine bk (fun hji=>?_) (fun hji=>?_)
 ·have hj1:j<ks.length:=by omega
  have hj2:j<ks'.length:=by omega
  obtain ⟨c1,o1,cap1,a1,E1,fz1,rfl,hS1,hR1⟩:=hks.at_ hj1
  obtain ⟨c2,o2,cap2,a2,E2,fz2,rfl,hS2,hR2⟩:=hks'.at_ hj2
  rw [ws ks ks' st' j hj1 hj2] at hrel
  have hcall:=ih _ (List.getElem_mem hj1) ks'[j] S _ _ kb kc' st' hR1 hR2 (oB hv2 _ (List.getElem_mem hj1)) (oz hu2 _ (List.getElem_mem hj2)) hst' hkc'
  have hsn:=ss ks[j] ks'[j] st' hst' (oz hu2 _ (List.getElem_mem hj2))
  generalize hr:bK ks[j] ks'[j] st'=r at hrel hcall hsn
  refine ⟨fun D fS fR eR eP eV eT eQ eW eU fH fJ eH cI w_=>(D 0=true->cI=.pointer (some ⟨b1,3,none⟩))/\(D 1=true->eH=.slice (some ⟨c1,o1,none⟩) ks.length cap1)/\(D 2=true->fJ=.int .i64 j)/\(D 3=true->fH=.pointer (some ⟨c1,o1+j * 4,none⟩))/\(D 4=true->eU=.agg (bu a1 (o1+j * 4) 4).toArray)/\(D 5=true->eW=.pointer (some ⟨b2,3,none⟩))/\(D 6=true->eQ=.slice (some ⟨c2,o2,none⟩) ks'.length cap2)/\(D 7=true->eT=.int .i64 j)/\(D 8=true->eV=.pointer (some ⟨c2,o2+j * 4,none⟩))/\(D 9=true->eP=.agg (bu a2 (o2+j * 4) 4).toArray)/\(D 10=true->eR=kvn kb kp)/\(D 11=true->fR=.bool r.1)/\(D 12=true->fS=.bool (!r.1))/\(D 11=false->Inv w X [.blk b1 (.cells #[.int .i64 k,.int .i64 n,.string s,.slice (some ⟨c1,o1,none⟩) ks.length cap1] ab),.blk b2 (.cells #[.int .i64 k',.int .i64 n',.string s',.slice (some ⟨c2,o2,none⟩) ks'.length cap2] ab),.blk kb (.cells kc' ab)] S w_)/\(D 11=true->∃ kc2,KnownC S kc2 r.2/\Inv w X [.blk b1 (.cells #[.int .i64 k,.int .i64 n,.string s,.slice (some ⟨c1,o1,none⟩) ks.length cap1] ab),.blk b2 (.cells #[.int .i64 k',.int .i64 n',.string s',.slice (some ⟨c2,o2,none⟩) ks'.length cap2] ab),.blk kb (.cells kc2 ab)] S w_)/\∃ kc3,Inv w X [.blk b1 (.cells #[.int .i64 k,.int .i64 n,.string s,.slice (some ⟨c1,o1,none⟩) ks.length cap1] ab),.blk b2 (.cells #[.int .i64 k',.int .i64 n',.string s',.slice (some ⟨c2,o2,none⟩) ks'.length cap2] ab),.blk kb (.cells kc3 ab)] S w_,⟨ae,ae,ae,ae,ae,ae,ae,ae,ae,ae,ae,ae,ae,⟨fun _=>hI.draw,ae,kc',hI.draw⟩⟩,⟨?_,?_,?_,?_,?_,?_,?_,?_,?_,?_,?_,?_,?_,trivial⟩,?_⟩
  ·intro D aY  fS fR eR eP eV eT eQ eW eU fH fJ eH cI w_
   rintro ⟨aA,aB,aC,aD,aw,aE,aF,aJ,aL,aQ,al,ao,aG,⟨hI0,hI1,kc3,hI⟩⟩
   refine bh aT ?_
   exact ⟨fun _=>rfl,aB,aC,aD,aw,aE,aF,aJ,aL,aQ,al,ao,aG,⟨hI0,hI1,kc3,hI⟩⟩
  ·intro D aY cc fS fR eR eP eV eT eQ eW eU fH fJ eH cI w_
   rintro ⟨aA,aB,aC,aD,aw,aE,aF,aJ,aL,aQ,al,ao,aG,⟨hI0,hI1,kc3,hI⟩⟩
   obtain rfl:=aA cc
   refine bH hI 0 aP rfl rfl ?_
   exact ⟨aA,fun _=>rfl,aC,aD,aw,aE,aF,aJ,aL,aQ,al,ao,aG,⟨hI0,hI1,kc3,hI⟩⟩
  ·intro D aY  fS fR eR eP eV eT eQ eW eU fH fJ eH cI w_
   rintro ⟨aA,aB,aC,aD,aw,aE,aF,aJ,aL,aQ,al,ao,aG,⟨hI0,hI1,kc3,hI⟩⟩
   exact ⟨aA,aB,fun _=>rfl,aD,aw,aE,aF,aJ,aL,aQ,al,ao,aG,⟨hI0,hI1,kc3,hI⟩⟩
  ·intro D aY dC gA fS fR eR eP eV eT eQ eW eU fH fJ eH cI w_
   rintro ⟨aA,aB,aC,aD,aw,aE,aF,aJ,aL,aQ,al,ao,aG,⟨hI0,hI1,kc3,hI⟩⟩
   obtain rfl:=aB dC
   obtain rfl:=aC gA
   refine bi av hj1 ?_
   exact ⟨aA,aB,aC,fun _=>rfl,aw,aE,aF,aJ,aL,aQ,al,ao,aG,⟨hI0,hI1,kc3,hI⟩⟩
  ·intro D aY dB fS fR eR eP eV eT eQ eW eU fH fJ eH cI w_
   rintro ⟨aA,aB,aC,aD,aw,aE,aF,aJ,aL,aQ,al,ao,aG,⟨hI0,hI1,kc3,hI⟩⟩
   obtain rfl:=aD dB
   refine cV ai hR1.length (fun j v hj=>by rw [hI.cellS hS1]; exact bm rfl j v hj) ?_
   exact ⟨aA,aB,aC,aD,fun _=>rfl,aE,aF,aJ,aL,aQ,al,ao,aG,⟨hI0,hI1,kc3,hI⟩⟩
  ·intro D aY  fS fR eR eP eV eT eQ eW eU fH fJ eH cI w_
   rintro ⟨aA,aB,aC,aD,aw,aE,aF,aJ,aL,aQ,al,ao,aG,⟨hI0,hI1,kc3,hI⟩⟩
   refine bh aT ?_
   exact ⟨aA,aB,aC,aD,aw,fun _=>rfl,aF,aJ,aL,aQ,al,ao,aG,⟨hI0,hI1,kc3,hI⟩⟩
  ·intro D aY d3 fS fR eR eP eV eT eQ eW eU fH fJ eH cI w_
   rintro ⟨aA,aB,aC,aD,aw,aE,aF,aJ,aL,aQ,al,ao,aG,⟨hI0,hI1,kc3,hI⟩⟩
   obtain rfl:=aE d3
   refine bH hI 1 aP rfl rfl ?_
   exact ⟨aA,aB,aC,aD,aw,aE,fun _=>rfl,aJ,aL,aQ,al,ao,aG,⟨hI0,hI1,kc3,hI⟩⟩
  ·intro D aY  fS fR eR eP eV eT eQ eW eU fH fJ eH cI w_
   rintro ⟨aA,aB,aC,aD,aw,aE,aF,aJ,aL,aQ,al,ao,aG,⟨hI0,hI1,kc3,hI⟩⟩
   exact ⟨aA,aB,aC,aD,aw,aE,aF,fun _=>rfl,aL,aQ,al,ao,aG,⟨hI0,hI1,kc3,hI⟩⟩
  ·intro D aY c4 jZ fS fR eR eP eV eT eQ eW eU fH fJ eH cI w_
   rintro ⟨aA,aB,aC,aD,aw,aE,aF,aJ,aL,aQ,al,ao,aG,⟨hI0,hI1,kc3,hI⟩⟩
   obtain rfl:=aF c4
   obtain rfl:=aJ jZ
   refine bi av hj2 ?_
   exact ⟨aA,aB,aC,aD,aw,aE,aF,aJ,fun _=>rfl,aQ,al,ao,aG,⟨hI0,hI1,kc3,hI⟩⟩
  ·intro D aY jh fS fR eR eP eV eT eQ eW eU fH fJ eH cI w_
   rintro ⟨aA,aB,aC,aD,aw,aE,aF,aJ,aL,aQ,al,ao,aG,⟨hI0,hI1,kc3,hI⟩⟩
   obtain rfl:=aL jh
   refine cV ai hR2.length (fun j v hj=>by rw [hI.cellS hS2]; exact bm rfl j v hj) ?_
   exact ⟨aA,aB,aC,aD,aw,aE,aF,aJ,aL,fun _=>rfl,al,ao,aG,⟨hI0,hI1,kc3,hI⟩⟩
  ·intro D aY  fS fR eR eP eV eT eQ eW eU fH fJ eH cI w_
   rintro ⟨aA,aB,aC,aD,aw,aE,aF,aJ,aL,aQ,al,ao,aG,⟨hI0,hI1,kc3,hI⟩⟩
   exact ⟨aA,aB,aC,aD,aw,aE,aF,aJ,aL,aQ,fun _=>rfl,ao,aG,⟨hI0,hI1,kc3,hI⟩⟩
  ·intro D aY cR fj Am fS fR eR eP eV eT eQ eW eU fH fJ eH cI w_
   rintro ⟨aA,aB,aC,aD,aw,aE,aF,aJ,aL,aQ,al,ao,aG,⟨hI0,hI1,kc3,hI⟩⟩
   obtain rfl:=aw cR
   obtain rfl:=aQ fj
   obtain rfl:=al Am
   refine Run.call (A:=[_,_]) uo ut (hI0 aY) hcall fun v' I' S w_=>?_
   rintro ⟨rfl,rfl,kc2,rfl,hk2⟩ _ hI
   have hI0:=fun (h:ay D 11 11=false)=>(Bool.noConfusion h:Inv w X [.blk b1 (.cells #[.int .i64 k,.int .i64 n,.string s,.slice (some ⟨c1,o1,none⟩) ks.length cap1] ab),.blk b2 (.cells #[.int .i64 k',.int .i64 n',.string s',.slice (some ⟨c2,o2,none⟩) ks'.length cap2] ab),.blk kb (.cells kc' ab)] S w_)
   have hI1:=fun (_:ay D 11 11=true)=>(⟨kc2,hk2,hI⟩:∃ kc2,KnownC S kc2 r.2/\Inv w X [.blk b1 (.cells #[.int .i64 k,.int .i64 n,.string s,.slice (some ⟨c1,o1,none⟩) ks.length cap1] ab),.blk b2 (.cells #[.int .i64 k',.int .i64 n',.string s',.slice (some ⟨c2,o2,none⟩) ks'.length cap2] ab),.blk kb (.cells kc2 ab)] S w_)
   obtain ⟨kc3,hI⟩:∃ kc3,Inv w X [.blk b1 (.cells #[.int .i64 k,.int .i64 n,.string s,.slice (some ⟨c1,o1,none⟩) ks.length cap1] ab),.blk b2 (.cells #[.int .i64 k',.int .i64 n',.string s',.slice (some ⟨c2,o2,none⟩) ks'.length cap2] ab),.blk kb (.cells kc3 ab)] S w_:=⟨kc2,hI⟩
   exact ⟨aA,aB,aC,aD,aw,aE,aF,aJ,aL,aQ,al,fun _=>rfl,aG,⟨hI0,hI1,kc3,hI⟩⟩
  ·intro D aY g8 fS fR eR eP eV eT eQ eW eU fH fJ eH cI w_
   rintro ⟨aA,aB,aC,aD,aw,aE,aF,aJ,aL,aQ,al,ao,aG,⟨hI0,hI1,kc3,hI⟩⟩
   obtain rfl:=ao g8
   refine cF ?_
   exact ⟨aA,aB,aC,aD,aw,aE,aF,aJ,aL,aQ,al,ao,fun _=>rfl,⟨hI0,hI1,kc3,hI⟩⟩
  intro D je fi fp jt gK fT fY fE fm fw fF fC fD fS fR eR eP eV eT eQ eW eU fH fJ eH cI w_
  rintro ⟨aA,aB,aC,aD,aw,aE,aF,aJ,aL,aQ,al,ao,aG,⟨hI0,hI1,kc3,hI⟩⟩
  obtain rfl:=aG je
  obtain rfl:=ao fi
  obtain rfl:=al fp
  obtain rfl:=aQ jt
  obtain rfl:=aL gK
  obtain rfl:=aJ fT
  obtain rfl:=aF fY
  obtain rfl:=aE fE
  obtain rfl:=aw fm
  obtain rfl:=aD fw
  obtain rfl:=aC fF
  obtain rfl:=aB fC
  obtain rfl:=aA fD
  clear aA aB aC aD aw aE aF aJ aL aQ al ao aG
  obtain ⟨kc2,hk2,hI⟩:=hI1 fi
  clear hI0 hI1
  refine a8 (fun hne=>?_) (fun he'=>?_)
  ·simp only [Bool.not_eq_true'] at hne
   rw [hne,if_neg (by decide)] at hrel
   rw [<- hrel]
   exact ⟨_,_,_,rfl,hI.pick [false,false,true],Ext.refl _ _ _,rfl,rfl,_,rfl,hk2⟩
  ·simp only [Bool.not_eq_false'] at he'
   rw [he',if_pos rfl] at hrel
   refine bL (by omega) ?_
   exact ⟨⟨j+1,r.2,kc2,hj1,rfl,hrel,hsn,hk2,hI⟩,by simp [intOf]; omega⟩
 ·have:j=ks.length:=by omega
  subst this
  rw [List.drop_length,hle,List.drop_length] at hrel
  rw [<- hrel]
  exact ⟨_,_,_,rfl,hI.pick [false,false,true],Ext.refl _ _ _,rfl,rfl,_,rfl,hkc'⟩
end

end Go.Proofs.YtemmhhdnlbmicaaGreat

/- Variables numbered anew: the plain form of both sides. -/
namespace Go.Proofs.YtemmhhdnlbmicaaGreat
open Go Go.RowKit

end Go.Proofs.YtemmhhdnlbmicaaGreat

/- Unification: the plain form. Lists of bindings, what a variable reaches, unifiers, resolved terms. -/
namespace Go.Proofs.YtemmhhdnlbmicaaGreat
open Go Go.RowKit
/- terms whose variables are bare and below a number -/
mutual
def okU (N:Nat):T->Prop
 | .mk k n s ks=>k≠0/\(k=1->0<=n/\n<N/\s=emptyB/\ks=[])/\lz N ks/\s.size<=6
def lz (N:Nat):List T->Prop
 | []=>True
 | t::ts=>okU N t/\lz N ts
end
mutual
def vT:T->List Nat
 | .mk k n _ ks=>if k=1 then [n.toNat] else vTL ks
def vTL:List T->List Nat
 | []=>[]
 | t::ts=>vT t++vTL ts
end
theorem FG {N:Nat}:∀ {ts:List T},lz N ts->∀ t∈ts,okU N t
 | t::ts,h,x,hx=>by
  rw [lz] at h
  rcases List.mem_cons.1 hx with rfl|hx
  ·exact h.1
  ·exact FG h.2 x hx
theorem MF {N:Nat}:∀ {ts:List T},(∀ t∈ts,okU N t)->lz N ts
 | [],_=>by rw [lz]; trivial
 | t::ts,h=>by rw [lz]; exact ⟨h t (List.mem_cons_self ..),MF fun u hu=>h u (List.mem_cons_of_mem _ hu)⟩
theorem okU.kids {N:Nat} {t:T} (h:okU N t):lz N t.kids:=by cases t; rw [okU] at h; exact h.2.2.1
theorem okU.var {N:Nat} {t:T} (h:okU N t) (hk:t.kind=1):0<=t.n/\t.n<N/\t.name=emptyB/\t.kids=[]:=by cases t; rw [okU] at h; exact h.2.1 hk
theorem okU.kind {N:Nat} {t:T} (h:okU N t):t.kind≠0:=by cases t; rw [okU] at h; exact h.1
/- what a term is bound to -/
def EY (st:bt) (t:T):Option T:=if t.kind=1 then (st[t.n.toNat]?).join else none
theorem Km {st:bt} {t u:T}:EY st t=some u↔t.kind=1/\st[t.n.toNat]?=some (some u):=by
 unfold EY
 split
 ·rename_i h
  simp only [Option.join_eq_some_iff]
  exact ⟨fun e=>⟨h,e⟩,fun e=>e.2⟩
 ·rename_i h
  simp [h]
theorem KQ {st:bt} {t:T}:EY st t=none↔(t.kind=1->st[t.n.toNat]?=none ∨ st[t.n.toNat]?=some none):=by
 unfold EY
 split
 ·rename_i h
  rw [Option.join_eq_none_iff]
  constructor
  ·intro e _
   rcases e with e|e
   ·exact .inl e
   ·exact .inr e
  ·intro e
   rcases e h with e|e
   ·exact .inl e
   ·exact .inr e
 ·rename_i h
  simp [h]
inductive gJ (st:bt):T->T->Prop
 | stop {t:T}:EY st t=none->gJ st t t
 | step {t u v:T}:EY st t=some u->gJ st u v->gJ st t v
inductive Rch (st:bt):Nat->Nat->Prop
 | refl (m:Nat):Rch st m m
 | step {m k n:Nat} {u:T}:st[m]?=some (some u)->k∈vT u->Rch st k n->Rch st m n
theorem Rch.trans {st:bt} {a b c:Nat} (h:Rch st a b) (h':Rch st b c):Rch st a c:=by
 induction h with
 | refl=>exact h'
 | step h1 h2 _ ih=>exact .step h1 h2 (ih h')
def Dq (st:bt) (n:Nat) (t:T):Prop:=∃ m∈vT t,Rch st m n
structure Good (N:Nat) (st:bt):Prop where
 len:st.length=N
 ok:∀ t,some t∈st->okU N t
 w:∀ t,some t∈st->wT t<=1048576
 rk:∃ r:Nat->Nat,∀ (n:Nat) (u:T),st[n]?=some (some u)->∀ m∈vT u,r m<r n
theorem Good.look_ok {N:Nat} {st:bt} (h:Good N st) {t u:T} (hl:EY st t=some u):okU N u/\wT u<=1048576:=by
 have:=List.mem_of_getElem? (Km.1 hl).2
 exact ⟨h.ok u this,h.w u this⟩
theorem kz {N:Nat} {st:bt} {t v:T} (h:Good N st) (hw:gJ st t v) (ht:okU N t/\wT t<=1048576):okU N v/\wT v<=1048576:=by
 induction hw with
 | stop=>exact ht
 | step hl _ ih=>exact ih (h.look_ok hl)
theorem CI {st:bt} {t v:T} (hw:gJ st t v):EY st v=none:=by
 induction hw with
 | stop h=>exact h
 | step _ _ ih=>exact ih
/- what a walk leaves open -/
/- bindings that are left -/
def unb:bt->Nat
 | []=>0
 | none::st=>unb st+1
 | some _::st=>unb st
theorem DG:∀ (st:bt) (n:Nat) (t:T),st[n]?=some none->unb (st.set n (some t))+1=unb st
 | [],n,t,h=>by simp at h
 | x::st,0,t,h=>by
  simp only [List.getElem?_cons_zero,Option.some.injEq] at h
  subst h
  rfl
 | x::st,n+1,t,h=>by
  have h':st[n]?=some none:=by simpa using h
  have:=DG st n t h'
  cases x <;> simp only [List.set_cons_succ,unb] <;> omega
open Classical in
theorem Good.set {N:Nat} {st:bt} (h:Good N st) {n:Nat} {t:T} (hn:st[n]?=some none) (ht:okU N t) (hw:wT t<=1048576) (ho:¬ Dq st n t):Good N (st.set n (some t)):=by
 have hnl:n<st.length:=(List.getElem?_eq_some_iff.1 hn).1
 refine ⟨by rw [List.length_set]; exact h.len,fun u hu=>?_,fun u hu=>?_,?_⟩
 ·rcases List.mem_or_eq_of_mem_set hu with hu|hu
  ·exact h.ok u hu
  ·rw [Option.some.injEq] at hu
   rw [hu]; exact ht
 ·rcases List.mem_or_eq_of_mem_set hu with hu|hu
  ·exact h.w u hu
  ·rw [Option.some.injEq] at hu
   rw [hu]; exact hw
 ·obtain ⟨r,hr⟩:=h.rk
  have hM:∀ l:List Nat,∃ M,∀ m∈l,r m<=M:=by
   intro l
   induction l with
   | nil=>exact ⟨0,by simp⟩
   | cons x l ih=>
    obtain ⟨M,hM⟩:=ih
    refine ⟨M+r x,fun m hm=>?_⟩
    rcases List.mem_cons.1 hm with rfl|hm
    ·omega
    ·have:=hM m hm; omega
  obtain ⟨M,hM⟩:=hM (vT t)
  refine ⟨fun m=>if Rch st m n then r m+M+1 else r m,fun k u hku m hm=>?_⟩
  by_cases hkn:n=k
  ·subst hkn
   rw [List.getElem?_set_self hnl,Option.some.injEq,Option.some.injEq] at hku
   subst hku
   have h1:¬ Rch st m n:=fun e=>ho ⟨m,hm,e⟩
   have h2:=hM m hm
   simp only [if_neg h1,if_pos (Rch.refl (st:=st) n)]
   omega
  ·rw [List.getElem?_set_ne hkn] at hku
   have h1:=hr k u hku m hm
   by_cases hmn:Rch st m n
   ·have h2:Rch st k n:=.step hku hm hmn
    simp only [if_pos hmn,if_pos h2]
    omega
   ·simp only [if_neg hmn]
    split <;> omega
/- unification -/
inductive Job where
 | one (a b:T)
 | list (xs ys:List T)
inductive Uni:bt->Job->Bool->bt->Prop
 | same {st:bt} {a b a' b':T}:gJ st a a'->gJ st b b'->a'.kind=1->b'.kind=1->a'.n=b'.n->Uni st (.one a b) true st
 | bindA {st:bt} {a b a' b':T}:gJ st a a'->gJ st b b'->a'.kind=1->¬ (b'.kind=1/\a'.n=b'.n)->¬ Dq st a'.n.toNat b'->Uni st (.one a b) true (st.set a'.n.toNat (some b'))
 | occA {st:bt} {a b a' b':T}:gJ st a a'->gJ st b b'->a'.kind=1->¬ (b'.kind=1/\a'.n=b'.n)->Dq st a'.n.toNat b'->Uni st (.one a b) false st
 | bindB {st:bt} {a b a' b':T}:gJ st a a'->gJ st b b'->a'.kind≠1->b'.kind=1->¬ Dq st b'.n.toNat a'->Uni st (.one a b) true (st.set b'.n.toNat (some a'))
 | occB {st:bt} {a b a' b':T}:gJ st a a'->gJ st b b'->a'.kind≠1->b'.kind=1->Dq st b'.n.toNat a'->Uni st (.one a b) false st
 | clash {st:bt} {a b a' b':T}:gJ st a a'->gJ st b b'->a'.kind≠1->b'.kind≠1->l5 a' b'=false->Uni st (.one a b) false st
 | kids {st st':bt} {a b a' b':T} {r:Bool}:gJ st a a'->gJ st b b'->a'.kind≠1->b'.kind≠1->l5 a' b'=true->Uni st (.list a'.kids b'.kids) r st'->Uni st (.one a b) r st'
 | nil {st:bt}:Uni st (.list [] []) true st
 | stop {st st':bt} {a b:T} {xs ys:List T}:Uni st (.one a b) false st'->Uni st (.list (a::xs) (b::ys)) false st'
 | go {st st1 st':bt} {a b:T} {xs ys:List T} {r:Bool}:Uni st (.one a b) true st1->Uni st1 (.list xs ys) r st'->Uni st (.list (a::xs) (b::ys)) r st'
def okJ (N:Nat):Job->Prop
 | .one a b=>(okU N a/\wT a<=1048576)/\(okU N b/\wT b<=1048576)
 | .list xs ys=>(∀ a∈xs,okU N a/\wT a<=1048576)/\(∀ b∈ys,okU N b/\wT b<=1048576)/\xs.length=ys.length
theorem yF {N:Nat} {t:T} (h:okU N t/\wT t<=1048576):∀ x∈t.kids,okU N x/\wT x<=1048576:=by
 intro x hx
 refine ⟨FG h.1.kids x hx,?_⟩
 have h1:=iB hx
 have h2:=h.2
 cases t
 rw [wT] at h2
 simp only [T.kids] at h1
 omega
theorem Hp {a b:T} (h:l5 a b=true):a.kids.length=b.kids.length:=by
 rw [l5] at h
 simp only [Bool.and_eq_true,decide_eq_true_eq] at h
 exact h.2.2.2
theorem Hi {N:Nat} {st:bt} (h:Good N st) {a:T} (hk:a.kind=1) (hl:EY st a=none) (ho:okU N a):st[a.n.toNat]?=some none:=by
 obtain ⟨h0,h1,_⟩:=ho.var hk
 rcases KQ.1 hl hk with e|e
 ·have:=List.getElem?_eq_none_iff.1 e
  have:=h.len
  omega
 ·exact e
theorem Uni.good {N:Nat} {st st':bt} {j:Job} {r:Bool} (hu:Uni st j r st'):Good N st->okJ N j->Good N st'/\(st'=st ∨ unb st'<unb st):=by
 induction hu with
 | same=>exact fun h _=>⟨h,.inl rfl⟩
 | occA=>exact fun h _=>⟨h,.inl rfl⟩
 | occB=>exact fun h _=>⟨h,.inl rfl⟩
 | clash=>exact fun h _=>⟨h,.inl rfl⟩
 | nil=>exact fun h _=>⟨h,.inl rfl⟩
 | bindA ha hb hk hns ho=>
  rename_i a' b'
  intro h hj
  have h1:=kz h ha hj.1
  have h2:=kz h hb hj.2
  have hf:=Hi h hk (CI ha) h1.1
  have:=DG _ _ b' hf
  exact ⟨h.set hf h2.1 h2.2 ho,.inr (by omega)⟩
 | bindB ha hb hns hk ho=>
  rename_i a' b'
  intro h hj
  have h1:=kz h ha hj.1
  have h2:=kz h hb hj.2
  have hf:=Hi h hk (CI hb) h2.1
  have:=DG _ _ a' hf
  exact ⟨h.set hf h1.1 h1.2 ho,.inr (by omega)⟩
 | kids ha hb _ _ hd _ ih=>
  intro h hj
  exact ih h ⟨yF (kz h ha hj.1),yF (kz h hb hj.2),Hp hd⟩
 | stop _ ih=>
  intro h hj
  exact ih h ⟨hj.1 _ (List.mem_cons_self ..),hj.2.1 _ (List.mem_cons_self ..)⟩
 | go _ _ ih1 ih2=>
  intro h hj
  obtain ⟨h1,h2⟩:=ih1 h ⟨hj.1 _ (List.mem_cons_self ..),hj.2.1 _ (List.mem_cons_self ..)⟩
  obtain ⟨h3,h4⟩:=ih2 h1 ⟨fun a ha=>hj.1 a (List.mem_cons_of_mem _ ha),fun b hb=>hj.2.1 b (List.mem_cons_of_mem _ hb),by have:=hj.2.2; simpa using this⟩
  refine ⟨h3,?_⟩
  rcases h2 with rfl|h2
  ·exact h4
  ·rcases h4 with rfl|h4
   ·exact .inr h2
   ·exact .inr (by omega)
/- resolved terms -/
end Go.Proofs.YtemmhhdnlbmicaaGreat

/- Terms drawn: literal lists, appends in any order, spec.l1Draw, l1Some, l1Mutate: what is drawn is readable and light. -/
namespace Go.Proofs.YtemmhhdnlbmicaaGreat
open Go Go.RowKit
theorem M0 {b:Bool} {n:Nat} (h:b=decide (1<=n)) (h':b=false):n=0:=by
 rw [h',eq_comm,decide_eq_false_iff_not] at h; omega
theorem u0 {a b:Bool} {k n:Nat} (h:a=decide (k<=n)) (ha:a=true) (h':b=decide (k+1<=n)) (hb:b=false):n=k:=by
 rw [ha,eq_comm,decide_eq_true_iff] at h
 rw [hb,eq_comm,decide_eq_false_iff_not] at h'
 omega
theorem M8 {b:Bool} {n m:Nat} (hl:n<=m) (h:b=decide (m<=n)) (hb:b=true):n=m:=by
 rw [hb,eq_comm,decide_eq_true_iff] at h; omega
theorem M7 {b l:Bool} {n m:Nat} (h:b=decide (m<=n)) (k:b=true->l=true) (hl:l=false):n<m:=by
 cases b
 ·rw [eq_comm,decide_eq_false_iff_not] at h; omega
 ·rw [k rfl] at hl; cases hl
def Ld:List (Nat × Value)->List ByteArray
 | (_,.string s)::l=>s::Ld l
 | _=>[]
def Mx:List (Nat × Value)->List Int
 | (_,.int _ n)::l=>n::Mx l
 | _=>[]
theorem LL {α:Type} {f:α->Value} (l:List α) {i:Nat} (hi:i<l.length):bu (l.map f).toArray i 1=[f l[i]]:=by
 rw [bu,List.drop_eq_getElem_cons (by simpa using hi)]
 simp
theorem RdSl.monoU {S S':az} {v:Value} {ys:List Nat} (hs:Sle S S') (h:RdSl S 1 ku v ys):RdSl S' 1 ku v ys:=h.mono hs fun _ _ h=>h
theorem NK {S:az} {b:Nat} {E:TypeId} {cs:List Value} {t:T} (hS:S b=some (.cells cs.toArray E)) (h:RdT S cs t):RdSl S 4 (RdT S) (.slice (some ⟨b,0,none⟩) 1 1) [t]:=by
 refine ⟨_,1,rfl,Nat.le_refl _,by simp [maxLen],.inr ⟨b,0,_,E,(0,0),rfl,hS,fun i hi=>?_⟩⟩
 match i,hi with
 | 0,_=>
  have e:bu cs.toArray (0+0 * 4) 4=cs:=by
   rw [bu]
   simpa using List.take_of_length_le (Nat.le_of_eq h.length)
  rw [e]
  exact h
section
variable {w0 w:World} {X:List Nat} {L A:List Item} {S:az} {K:Value->World->Prop}
attribute [local irreducible] Run CondV aj bd
theorem Inv.last (h:Inv w0 X L S w) (i:Nat) {it:Item} (hi:L[i]?=some it):Inv w0 X (L.eraseIdx i++[it]) S w:=by
 refine h.perm ?_
 obtain ⟨h1,_⟩:=u7 hi it
 rw [List.eraseIdx_eq_take_drop_succ]
 conv=>rhs; rw [h1]
 rw [List.append_assoc]
 exact List.Perm.append_left _ List.perm_append_comm
theorem qU {n:Nat} {ps:List (Nat × Value)} (h:Inv w0 X L S w)
  (hr:(aS Dk n ps).run Tryz.prog w=.ok (.value (.slice (some ⟨w.heap.size,0,none⟩) n n)) { w with heap:=w.heap.push (.cells ((Ld ps).map Value.string).toArray iV) })
  (hn:(Ld ps).length=n) (hm:n<=1000) (hk:∀ v S1 w',Ext w0.heap.size X S S1->RdSl S1 1 qk v (Ld ps)->Inv w0 X L S1 w'->K v w'):Run Tryz.prog (aS Dk n ps) w K:=by
 refine q4 (v:=fun b=>.slice (some ⟨b,0,none⟩) n n) (o:=.cells ((Ld ps).map Value.string).toArray iV) h hr fun b w' hI=>?_
 obtain ⟨S1,hI,hE,hS⟩:=hI.pub1
 refine hk _ S1 w' hE ?_ hI
 exact RdSl.ofCells hS hn (by simp only [maxLen]; omega) fun i hi=>LL _ hi
theorem vf {n:Nat} {ps:List (Nat × Value)} (h:Inv w0 X L S w)
  (hr:(aS q5 n ps).run Tryz.prog w=.ok (.value (.slice (some ⟨w.heap.size,0,none⟩) n n)) { w with heap:=w.heap.push (.cells ((Mx ps).map (Value.int .i64)).toArray ff) })
  (hn:(Mx ps).length=n) (hm:n<=1000) (hk:∀ v S1 w',Ext w0.heap.size X S S1->RdSl S1 1 oc v (Mx ps)->Inv w0 X L S1 w'->K v w'):Run Tryz.prog (aS q5 n ps) w K:=by
 refine q4 (v:=fun b=>.slice (some ⟨b,0,none⟩) n n) (o:=.cells ((Mx ps).map (Value.int .i64)).toArray ff) h hr fun b w' hI=>?_
 obtain ⟨S1,hI,hE,hS⟩:=hI.pub1
 refine hk _ S1 w' hE ?_ hI
 exact RdSl.ofCells hS hn (by simp only [maxLen]; omega) fun i hi=>LL _ hi
def pB (Q:Prop) (R:Nat->Prop):Nat->Prop
 | 0=>Q
 | n+1=>R n
/- one value drawn by a call, put behind a row: the stages -/
def xk (w0:World) (X:List Nat) (b:Nat) (c:Array Value) (d:Nat) (E:TypeId) (kv:Value) (css:List (List Value)) (A:Nat->List Item) (Q:List Value->Nat->az->Prop) (xv xs xa:Value) (w':World):Nat->Prop
 | 0=>∃ p1 S1 cs,Q cs p1 S1/\(cs.length=4/\∀ u∈cs,u.oneCell'=true)/\xv=.agg cs.toArray/\Inv w0 X (.blk b (.cells c E)::bj kv ab 4 css::A p1) S1 w'
 | 1=>∃ p1 S1 cs b8,Q cs p1 S1/\(cs.length=4/\∀ u∈cs,u.oneCell'=true)/\xs=.slice (some ⟨b8,0,none⟩) 1 1/\Inv w0 X (.blk b (.cells c E)::bj kv ab 4 css::(A p1++[.blk b8 (.cells cs.toArray ab)])) S1 w'
 | 2=>∃ p1 S1 cs,Q cs p1 S1/\(cs.length=4/\∀ u∈cs,u.oneCell'=true)/\Inv w0 X (.blk b (.cells c E)::bj xa ab 4 (css++[cs])::A p1) S1 w'
 | 3=>∃ p1 S1 cs,Q cs p1 S1/\(cs.length=4/\∀ u∈cs,u.oneCell'=true)/\Inv w0 X (.blk b (.cells (c.setIfInBounds d xa) E)::bj xa ab 4 (css++[cs])::A p1) S1 w'
 | _=>False
variable {b d:Nat} {c:Array Value} {E:TypeId} {kv:Value} {css:List (List Value)} {F:Nat->List Item} {Q:List Value->Nat->az->Prop} {xv xs xa:Value}
theorem EO {n:Nat} (h:xk w0 X b c d E kv css F Q xv xs xa w n) (hn:n<3):w.cell? ⟨b,d,none⟩=c[d]?:=by
 rcases n with _|_|_|n
 ·obtain ⟨p1,S1,cs,_,_,_,hI⟩:=h
  exact hI.cellL (i:=0) rfl
 ·obtain ⟨p1,S1,cs,b8,_,_,_,hI⟩:=h
  exact hI.cellL (i:=0) rfl
 ·obtain ⟨p1,S1,cs,_,_,hI⟩:=h
  exact hI.cellL (i:=0) rfl
 ·omega
theorem ap1 {B:Prop} (h:pB B (xk w0 X b c d E kv css F Q xv xs xa w) 1) (hk:∀ u w',pB B (xk w0 X b c d E kv css F Q xv u xa w') 2->K u w'):Run Tryz.prog (aS cd 1 [(0,xv)]) w K:=by
 obtain ⟨p1,S1,cs,hQ,hl,rfl,hI⟩:=h
 refine fb hI bD (by simp [Value.cells,hl.1]) (by omega) (by omega) fun b8 w' hI=>?_
 exact hk _ _ ⟨p1,S1,cs,b8,hQ,hl,rfl,hI⟩
theorem ap2 {B:Prop} {ty:TypeId} {bs:List Bool} (h:pB B (xk w0 X b c d E kv css F Q xv xs xa w) 2) (hfit:css.length<=1000000) (hk:∀ u w',pB B (xk w0 X b c d E kv css F Q xv xs u w') 3->K u w'):Run Tryz.prog (ar .append #[cd,cd] ty bs [kv,xs]) w K:=by
 obtain ⟨p1,S1,cs,b8,hQ,hl,rfl,hI⟩:=h
 have hblk:(Item.blk b (.cells c E)::bj kv ab 4 css::(F p1++[.blk b8 (.cells cs.toArray ab)]))[(F p1).length+1+1]?=some (.blk b8 (.cells cs.toArray ab)):=by
  rw [List.getElem?_cons_succ,List.getElem?_cons_succ,List.getElem?_append_right (Nat.le_refl _),Nat.sub_self]; rfl
 refine fo hI 1 cs bD (by omega) rfl (by rw [hl.1]) (m:=1) (o:=0) ?_ hl.2 (by omega) (by omega) fun v' w_ hI=>?_
 ·intro i u hi
  rw [hI.cellL hblk,Nat.zero_add]
  simpa using hi
 rw [fW] at hI
 refine hk _ _ ⟨p1,S1,cs,hQ,hl,?_⟩
 exact hI.sub (((List.sublist_append_left _ _).cons_cons _).cons_cons _)
theorem ap3 {B:Prop} {ty:TypeId} (h:pB B (xk w0 X b c d E kv css F Q xv xs xa w) 3) (hd:d<c.size) {K:Value->World->Prop} (hk:∀ w',pB B (xk w0 X b c d E kv css F Q xv xs xa w') 4->K undef w'):Run Tryz.prog (sOp (.store cd (.const (.pointer (some ⟨b,d,none⟩))) (.const xa)) ty) w K:=by
 obtain ⟨p1,S1,cs,hQ,hl,hI⟩:=h
 obtain ⟨va,vn,vc,hv9⟩:=Inv.rowSlice hI 1 rfl
 refine el hI 0 (n:=1) (by rw [hv9]; rfl) (by decide +kernel) rfl (by omega) (by rw [hv9]; simp [Value.cells,Value.oneCell']) fun w_ hI=>?_
 have hcl9:Value.cells xa=#[xa]:=by rw [hv9]; rfl
 have e:bp c d (Value.cells xa).toList=c.setIfInBounds d xa:=by
  rw [hcl9]
  apply Array.toList_inj.1
  simp only [bp,Array.toList_setIfInBounds]
  have hl:d<c.toList.length:=by simpa using hd
  rw [List.set_eq_take_append_cons_drop,if_pos hl]
  simp
 rw [e] at hI
 exact hk _ ⟨p1,S1,cs,hQ,hl,hI⟩
end
/- how much a drawn term weighs, and how far the reader has gone -/
abbrev dW (d:Nat):Nat:=6 * 3 ^ d
theorem LG (d:Nat):6<=dW d:=by
 have:0<3 ^ d:=Nat.pow_pos (by omega)
 simp only [dW]; omega
theorem MU (d:Nat):dW (d+1)=3 * dW d:=by simp only [dW,Nat.pow_succ]; omega
abbrev NI (br:Nat) (sl:Value) (p d:Nat):Value->List Item->az->Prop:=fun v I' S'=>∃ p',p'+2<=p+dW d/\I'=[rdI br sl p']/\∃ cs t,v=.agg cs.toArray/\RdT S' cs t/\wT t+3<=dW d/\okU 26 t
end Go.Proofs.YtemmhhdnlbmicaaGreat
