/- Clauses and programs read: spec.l4Text, FormatClause, l4Goals, ParseClause, l18Cut, ParseProgram. -/
import Derived.Test.YtmnnpgdeecnfpaaGreatZMh5
import Derived.Test.YtmnnpgdeecnfpaaGreatZMh1
import Derived.Test.YtmnnpgdeecnfpaaGreatZMh2
namespace Go.Proofs.YtmnnpgdeecnfpaaGreat
open Go Go.RowKit
theorem p9:∀ (f:Nat) (l:List T) (b:Bool) (out x:Bs),ry f l b out=some x->out.length<=x.length
 | _,[],_,out,x,h=>by simp only [ry,Option.some.injEq] at h; subst h; exact Nat.le_refl _
 | f,t::l,b,out,x,h=>by
  rw [ry] at h
  split at h
  ·cases h
  ·have:=p9 f _ _ _ _ h
   simp only [List.length_append] at this
   omega
section
variable {w0 w:World} {X:List Nat} {L:List Item} {S:ax} {P:Program} {K:Value->World->Prop}
attribute [local irreducible] Run CondV ah ba
theorem Br (h:Inv w0 X L S w) {T ty e:TypeId} {by_:Nat} {z v x:Value} {cs:List Bool} {css:List (List Value)} (i:Nat)
  (hT:mX P T=some (e,1,by_,z)) (hi:L[i]?=some (be v e 1 css)) (hx:x.cells=#[x]) (h1:x.oneCell'=true) (hfit:css.length+1<=4294967296) (hby:by_<=32768)
  (hk:∀ v' w',Inv w0 X (L.set i (be v' e 1 (css++[[x]]))) S w'->K v' w') :
  Run P (aR T 1 [(0,x)]) w fun u w'=>Run P (aA .append #[T,T] ty cs [v,u]) w' K:=by
 refine dg h hT (by rw [hx]; rfl) (by omega) (by omega) fun b w' hI=>?_
 have hil:i<L.length:=(List.getElem?_eq_some_iff.1 hi).1
 refine dU hI i [x] hT (by omega) (by rw [List.getElem?_append_left hil]; exact hi) (by simp) (m:=1) (o:=0) ?_ (by simpa using h1) hfit hby fun v' w' hI=>?_
 ·intro j u hj
  rw [hI.cellL (i:=L.length) (by rw [List.getElem?_append_right (Nat.le_refl _),Nat.sub_self]; rfl)]
  rw [Nat.zero_add,hx]
  simpa using hj
 ·refine hk _ _ ?_
  rw [<- el]
  rw [List.set_append_left _ _ hil] at hI
  exact hI.sub (List.sublist_append_left _ _)
end
section
variable {S:ax}
attribute [local irreducible] Run CondV ah ba
theorem wZ {f:Nat} (hf:f<=100) {c:C} {cs:List Value} {x:Bs} (h:RdC S cs c) (hx:B7 f c=some x) (hl:x.length<=1000000):Pure Tryz.prog Ba [.agg cs.toArray] S (.string (st x)):=by
 intro w hI
 obtain ⟨hd,ks,rfl,h1,h2⟩:=h
 have h1':=h1
 obtain ⟨kv,rfl,_⟩:=RdT.iff.1 h1
 unfold B7 at hx
 split at hx
 ·cases hx
 rename_i y hy
 split at hx
 ·cases hx
 rename_i z hz
 simp only [Option.some.injEq] at hx
 have hzx:z.length+1=x.length:=by rw [<- hx,List.length_append]; rfl
 have hyz:=p9 _ _ _ _ _ hz
 have hb:c.body.length<=9223372036854775807:=by have:=h2.le; simpa [maxLen] using this
 refine sR ?_
 unfold qV
 refine co hI fun b1 w' hI=>?_
 have hI:Inv w [] [.blk b1 (.cells #[.int .i64 c.head.kind,.int .i64 c.head.n,.string c.head.name,kv,ks] ai)] S w':=hI
 refine bh cm ?_
 refine dI hI 0 [.int .i64 c.head.kind,.int .i64 c.head.n,.string c.head.name,kv] aj rfl rfl tV ?_
 refine Run.callPure eV eS hI (wu hf _ y S _ hy (by omega) h1') fun w' hI=>?_
 refine ⟨fun a b w'=>∃ (j:Nat) (out:Bs),j<=c.body.length/\a=.int .i64 (j:Int)/\b=.string (st out)/\ry f (c.body.drop j) (decide (j=0)) out=some z/\Inv w [] [.blk b1 (.cells #[.int .i64 c.head.kind,.int .i64 c.head.n,.string c.head.name,kv,ks] ai)] S w',
  fun a _ _=>c.body.length - (intOf a).toNat,⟨0,y,Nat.zero_le _,rfl,rfl,hz,hI⟩,?_⟩
 intro t4 _ _ _ _ _ _ _ _ _ _ _ _ t3 _ _ _ _ _ _ _ _ _ w'
 rintro ⟨j,out,hj,rfl,rfl,hbf,hI⟩
 refine aH hI 0 rfl bi aV rfl ?_
 refine bo h2 aS ?_
 refine dh ?_
 refine bz (fun hji=>?_) (fun hji=>?_)
 ·have hj':j<c.body.length:=by omega
  rw [List.drop_eq_getElem_cons hj',ry] at hbf
  split at hbf
  ·cases hbf
  rename_i u hu
  have hlen:=p9 _ _ _ _ _ hbf
  simp only [List.length_append] at hlen
  obtain ⟨pre,hpre⟩:∃ pre:Bs,pre=if decide (j=0)=true then [58,45] else [44]:=⟨_,rfl⟩
  rw [<- hpre] at hbf hlen
  refine ⟨fun b w'=>b=.string (st (out++pre))/\Inv w [] [.blk b1 (.cells #[.int .i64 c.head.kind,.int .i64 c.head.n,.string c.head.name,kv,ks] ai)] S w',?_,?_⟩
  ·refine bK ?_
   refine bz (fun h0=>?_) (fun h0=>?_)
   ·rw [if_pos (decide_eq_true (by omega))] at hpre
    subst hpre
    refine dw (b:=[58,45]) (by omega) ?_
    exact ⟨rfl,hI⟩
   ·rw [if_neg (by rw [decide_eq_true_eq]; omega)] at hpre
    subst hpre
    refine dw (b:=[44]) (by omega) ?_
    exact ⟨rfl,hI⟩
  intro _ _ t3 _ _ _ _ w'
  rintro ⟨rfl,hI⟩
  refine aH hI 0 rfl bi aV rfl ?_
  refine ei hI h2 aS aj hj' (fun _ _=>RdT.length) fun es hes=>?_
  refine Run.callPure eV eS hI (wu hf _ u S _ hu (by omega) hes) fun w' hI=>?_
  refine dw (by rw [List.length_append]; omega) ?_
  refine ct (by omega) ?_
  refine ⟨⟨j+1,out++pre++u,hj',rfl,rfl,?_,hI⟩,by simp only [intOf,Int.toNat_natCast]; omega⟩
  rw [decide_eq_false (by omega)]
  exact hbf
 ·have:j=c.body.length:=by omega
  subst this
  rw [List.drop_length,ry] at hbf
  simp only [Option.some.injEq] at hbf
  subst hbf
  refine dw (b:=[46]) (by simp only [List.length_cons,List.length_nil]; omega) ?_
  exact done hI (by rw [<- hx])
theorem mT {f:Nat} (hf:f<=100) {c:C} {cs:List Value} {x:Bs} (h:RdC S cs c) (hc:bH c=true) (hw:wC c<=1048576) (hx:B7 f c=some x) (hl:x.length<=1000000):Pure Tryz.prog qA [.agg cs.toArray] S (.string (st x)):=by
 intro w hI
 have h0:=h
 obtain ⟨hd,ks,rfl,h1,h2⟩:=h
 obtain ⟨kv,rfl,_⟩:=RdT.iff.1 h1
 refine lS ?_
 unfold i6
 refine co hI fun b1 w' hI=>?_
 refine bb hI 0 aW rfl rfl ?_
 refine Run.callPure jw jz hI (iL h0 hw) fun w' hI=>?_
 refine dT ?_
 rw [hc]
 refine bg (fun hb=>by cases hb) (fun _=>?_)
 refine bb hI 0 aW rfl rfl ?_
 refine Run.callPure yJ yf hI (wZ hf h0 hx hl) fun w' hI=>?_
 exact done hI rfl
theorem vu {f k:Nat} {s:Bs} {i:Nat} {ts:List T} {n:Nat} (h:m1 f k s i []=some (ts,n)) (hs:s.length<=100000) (hi:i<=s.length):Tri Tryz.prog zW [.string (st s),.int .i64 (i:Int)] [] S (EX ts n):=by
 intro w hI
 refine sv ?_
 unfold pn
 refine gx hI bt fun v0 w' hI=>?_
 refine ⟨fun a b w'=>∃ (k' i':Nat) (acc:List T) (S1:ax) (css:List (List Value)),a=.int .i64 (i':Int)/\i'<=s.length/\m1 f k' s i' acc=some (ts,n)/\Ext w.heap.size [] S S1/\Rows 4 (RdT S1) css acc/\(∃ p m,b=.slice p acc.length m)/\Inv w [] [be b ac 4 css] S1 w',
  fun a _ _=>s.length+1 - (intOf a).toNat,⟨k,i,[],S,[],rfl,hi,h,Ext.refl _ _ _,Rows.nil _ _,?_,hI⟩,?_⟩
 ·have hI2:Inv w [] ([]++[be v0 ac 4 []]) S w':=hI
  obtain ⟨S1,_,hrd,_⟩:=Inv.lendExt hI2
  obtain ⟨p,m,e,_⟩:=RowRd.rows (Rows.nil 4 (RdT S)) hrd
  exact ⟨p,m,e⟩
 intro t1 _ _ _ _ _ _ _ _ t6 _ _ _ _ _ _ _ _ _ _ _ _ _ _ _ _ _ _ _ w'
 rintro ⟨k',i',acc,S1,css,rfl,hi2,hT,hE,hR,⟨p,m,rfl⟩,hI⟩
 have hcl:=hR.hc
 cases k' with
 | zero=>simp [m1] at hT
 | succ g=>
 rw [m1] at hT
 split at hT
 ·cases hT
 rename_i h6
 split at hT
 ·cases hT
 rename_i t n' hr
 have hle:=(fq f).1 _ _ _ _ _ _ hr
 refine iD aS ?_
 refine xt (by omega) ?_
 refine bg (fun _=>?_) (fun hb=>by cases hb)
 refine Run.call0E eP eQ hI (wG f s i' 30 3 t n' S1 hr hs hi2 (by omega) (by omega)) fun v I' S2 w'=>?_
 rintro ⟨rfl,cs,rfl,hcs⟩ hE2 hI
 have hR2:=hR.monoR fun _ _ h=>RdT.mono hE2.1 h
 obtain ⟨kv,rfl,_,_,_,a,q,rfl,_⟩:=RdT.iff.1 hcs
 refine bj (v:=.agg _) rfl ?_
 refine bj (v:=.int .i64 (n':Int)) rfl ?_
 refine bm hI bx fun b13 w' hI=>?_
 refine aX hI 1 rfl aj rfl rfl (by simp [Value.oneCell']) fun w' hI=>?_
 refine ed (by omega) ?_
 refine bg (fun hb=>by cases hb) (fun _=>?_)
 refine bb hI 1 aj rfl rfl ?_
 refine gc (css:=css) hI 0 _ bt (by omega) (by omega) rfl hcs.length hcs.one (by omega) (by omega) fun v' w' hI=>?_
 have hI:Inv w [] [be v' ac 4 (css++[[.int .i64 t.kind,.int .i64 t.n,.string t.name,.slice a t.kids.length q]])] S2 w':=hI.pick [true,false]
 have hR3:=hR2.snoc hcs hcs.length
 have hI2:Inv w [] ([]++[be v' ac 4 (css++[[.int .i64 t.kind,.int .i64 t.n,.string t.name,.slice a t.kids.length q]])]) S2 w':=hI
 obtain ⟨S3,hE3,hrd,hI3⟩:=Inv.lendExt hI2
 have hrs:=RowRd.rows (hR3.monoR fun _ _ h=>RdT.mono hE3.1 h) hrd
 refine Run.callPure cZ c3 hI (cF s n' 44 S2) fun w' hI=>?_
 refine dT ?_
 split at hT
 ·rename_i h44
  rw [h44]
  refine bg (fun hb=>by cases hb) (fun _=>?_)
  have:=fG h44
  refine dZ (a:=n') (b:=1) rfl rfl (by omega) ?_
  obtain ⟨p',m',e',_⟩:=hrs
  refine ⟨⟨g,n'+1,acc++[t],S2,_,rfl,by omega,hT,hE.trans hE2,hR3,⟨p',m',e'⟩,hI⟩,?_⟩
  simp only [intOf,Int.toNat_natCast]
  omega
 ·rename_i h44
  rw [Bool.eq_false_iff.2 h44]
  refine bg (fun _=>?_) (fun hb=>by cases hb)
  simp only [Option.some.injEq,Prod.mk.injEq] at hT
  obtain ⟨rfl,rfl⟩:=hT
  have hI2:Inv w [] ([]++[be v' ac 4 (css++[[.int .i64 t.kind,.int .i64 t.n,.string t.name,.slice a t.kids.length q]])]) S2 w':=hI
  obtain ⟨S4,hE4,hrd,hI⟩:=Inv.lendExt hI2
  have hrs:=RowRd.rows (hR3.monoR fun _ _ h=>RdT.mono hE4.1 h) hrd
  exact ⟨_,[],S4,rfl,hI,(hE.trans hE2).trans hE4,rfl,_,rfl,hrs⟩
abbrev FR (c:C) (b:Bool):Value->List Item->ax->Prop:=fun v I' S'=>I'=[]/\∃ cs,v=.tuple #[.agg cs.toArray,.bool b]/\RdC S' cs c
theorem pG {f:Nat} (hf:f<=100) {s:Bs} {c:C} (h:oT f s=some c):Tri Tryz.prog sd [.string (st s)] [] S (FR c true):=by
 intro w hI
 refine l8 ?_
 unfold jp;dsimp only
 unfold oT at h
 split at h
 ·cases h
 rename_i hs
 split at h
 ·cases h
 rename_i hd n hr
 have hle:=(fq f).1 _ _ _ _ _ _ hr
 have hfin:∃ b n2,c=⟨hd,b⟩/\Cs f s c n2=some c/\((sgn s n 58=true/\sgn s (n+1) 45=true/\m1 f 8 s (n+2) []=some (b,n2)) ∨ (¬ (sgn s n 58=true/\sgn s (n+1) 45=true)/\b=[]/\n2=n)):=by
  have hcc:∀ (c':C) (m:Nat),Cs f s c' m=some c->c'=c:=fun c' m h=>by
   unfold Cs at h
   split at h
   ·exact Option.some.inj h
   ·cases h
  split at h
  ·rename_i h58
   split at h
   ·cases h
   rename_i b n2 hg
   have e:=hcc _ _ h
   subst e
   exact ⟨b,n2,rfl,h,.inl ⟨h58.1,h58.2,hg⟩⟩
  ·rename_i h58
   have e:=hcc _ _ h
   subst e
   exact ⟨[],n,rfl,h,.inr ⟨h58,rfl,rfl⟩⟩
 clear h
 obtain ⟨b,n2,rfl,hfin,hcase⟩:=hfin
 unfold Cs at hfin
 split at hfin
 case isFalse=>cases hfin
 rename_i hq
 obtain ⟨hq1,hq2,hq3,hq4,hq5⟩:=hq
 clear hfin
 refine bm hI bI fun b2 w' hI=>?_
 refine eA bf ?_
 refine jf (by omega) ?_
 refine bg (fun hb=>by cases hb) (fun _=>?_)
 refine Run.call0E eP eQ hI (wG f s 0 30 3 hd n S hr (by omega) (by omega) (by omega) (by omega)) fun v I' S1 w'=>?_
 rintro ⟨rfl,cs,rfl,hcs⟩ hE1 hI
 obtain ⟨kv,rfl,_,_,_,a,q,rfl,_⟩:=RdT.iff.1 hcs
 refine bj (v:=.agg _) rfl ?_
 refine bj (v:=.int .i64 (n:Int)) rfl ?_
 refine bm hI bx fun b4 w' hI=>?_
 refine aX hI 1 rfl aj rfl rfl (by simp [Value.oneCell']) fun w' hI=>?_
 refine ed (by omega) ?_
 refine bg (fun hb=>by cases hb) (fun _=>?_)
 refine bb hI 1 aj rfl rfl ?_
 refine fA ?_
 refine bm hI bI fun b6 w' hI=>?_
 refine aX hI 2 rfl aW rfl rfl (by simp [Value.oneCell']) fun w' hI=>?_
 obtain ⟨B2,hB2⟩:∃ B2,B2=Item.blk b2 (.cells #[.int .i64 0,.int .i64 0,.string ⟨#[]⟩,.slice none 0 0,.slice none 0 0] ai):=⟨_,rfl⟩
 obtain ⟨B4,hB4⟩:∃ B4,B4=Item.blk b4 (.cells #[.int .i64 hd.kind,.int .i64 hd.n,.string hd.name,.slice a hd.kids.length q] ac):=⟨_,rfl⟩
 have hI:Inv w [] [B2,B4,.blk b6 (.cells #[.int .i64 hd.kind,.int .i64 hd.n,.string hd.name,.slice a hd.kids.length q,.slice none 0 0] ai)] S1 w':=by rw [hB2,hB4]; exact hI
 refine ⟨fun v w'=>∃ (kb:Value) (S2:ax),v=.int .i64 (n2:Int)/\Ext w.heap.size [] S S2/\RdT S2 [.int .i64 hd.kind,.int .i64 hd.n,.string hd.name,.slice a hd.kids.length q] hd/\RdSl S2 4 (RdT S2) kb b/\
   Inv w [] [B2,B4,.blk b6 (.cells #[.int .i64 hd.kind,.int .i64 hd.n,.string hd.name,.slice a hd.kids.length q,kb] ai)] S2 w',?_,?_⟩
 ·refine ⟨fun v w'=>v=.bool (sgn s n 58 && sgn s (n+1) 45)/\Inv w [] [B2,B4,.blk b6 (.cells #[.int .i64 hd.kind,.int .i64 hd.n,.string hd.name,.slice a hd.kids.length q,.slice none 0 0] ai)] S1 w',?_,?_⟩
  ·refine Run.callPure cZ c3 hI (cF s n 58 S1) fun w' hI=>?_
   cases h58:sgn s n 58
   ·repeat (first|refine ad ?_|refine ag (by decide) ?_|refine ae ?_|refine aq ?_|refine al ?_)
    exact ⟨by rw [Bool.false_and],hI⟩
   ·repeat (first|refine ad ?_|refine ag (by decide) ?_|refine ae ?_|refine aq ?_|refine al ?_)
    refine dZ (a:=n) (b:=1) rfl rfl (by omega) ?_
    refine Run.callPure cZ c3 hI (cF s (n+1) 45 S1) fun w' hI=>?_
    repeat (first|refine ad ?_|refine ag (by decide) ?_|refine ae ?_|refine aq ?_|refine al ?_)
    exact ⟨by rw [Bool.true_and],hI⟩
  intro t29 _ _ _ _ _ _ _ _ w'
  rintro ⟨rfl,hI⟩
  rcases hcase with ⟨h1,h2,hg⟩|⟨h1,rfl,rfl⟩
  ·rw [h1,h2]
   refine bg (fun _=>?_) (fun hb=>by cases hb)
   have h3:=fG h2
   refine dZ (a:=n) (b:=2) rfl rfl (by omega) ?_
   refine Run.call0E xI wO hI (vu hg (by omega) (by omega)) fun v I' S2 w'=>?_
   rintro ⟨rfl,u,rfl,hu⟩ hE2 hI
   obtain ⟨p,m,rfl,_⟩:=id hu
   refine bj (v:=.slice p b.length m) rfl ?_
   refine bj (v:=.int .i64 (n2:Int)) rfl ?_
   refine ff hI 2 rfl bi aV rfl rfl rfl fun w' hI=>?_
   exact ⟨_,S2,rfl,hE1.trans hE2,RdT.mono hE2.1 hcs,hu,hI⟩
  ·have e:(sgn s n2 58 && sgn s (n2+1) 45)=false:=by
    rw [Bool.eq_false_iff,ne_eq,Bool.and_eq_true]; exact h1
   rw [e]
   refine bg (fun hb=>by cases hb) (fun _=>?_)
   exact ⟨_,S1,rfl,hE1,hcs,j7 S1,hI⟩
 intro t5 _ _ _ _ _ _ _ _ _ _ _ _ _ _ _ _ _ w'
 rintro ⟨kb,S2,rfl,hE2,hhd,hb,hI⟩
 have hC:RdC S2 [.int .i64 hd.kind,.int .i64 hd.n,.string hd.name,.slice a hd.kids.length q,kb] ⟨hd,b⟩:=⟨[.int .i64 hd.kind,.int .i64 hd.n,.string hd.name,.slice a hd.kids.length q],kb,rfl,hhd,hb⟩
 refine ⟨fun v w'=>v=.bool false/\Inv w [] [B2,B4,.blk b6 (.cells #[.int .i64 hd.kind,.int .i64 hd.n,.string hd.name,.slice a hd.kids.length q,kb] ai)] S2 w',?_,?_⟩
 ·refine eA bf ?_
  refine pF (by omega) ?_
  refine Cf ?_
  rw [decide_eq_true (show (n2:Int)=(s.length:Int) - 1 by omega)]
  refine ad (b:=false) ?_
  refine Run.callPure cZ c3 hI (cF s n2 46 S2) fun w' hI=>?_
  refine dT ?_
  rw [hq2]
  refine al ?_
  refine ad (b:=false) ?_
  refine bb hI 2 aW rfl rfl ?_
  refine Run.callPure o9 pp hI (mT hf hC hq3 (by omega) hq5 (by omega)) fun w' hI=>?_
  refine B8 ?_
  rw [decide_eq_true rfl]
  refine al ?_
  exact ⟨rfl,hI⟩
 intro t54 _ _ _ _ _ _ _ _ _ _ _ _ _ _ _ _ w'
 rintro ⟨rfl,hI⟩
 refine bg (fun hb=>by cases hb) (fun _=>?_)
 refine bb hI 2 aW rfl rfl ?_
 refine Run.call0E rp qY hI (yb hC (by omega)) fun v I' S3 w'=>?_
 rintro ⟨rfl,ds,M,rfl,rfl,hT⟩ hE3 hI
 obtain ⟨S4,hI,hE4,hins⟩:=hI.pubExt
 have hR4:=hT.rd hins
 have hl5:=hR4.length
 have h15:=hT.one
 subst hB2
 refine aX hI 0 rfl aW (by simpa using hl5) rfl (by simpa using h15) fun w' hI=>?_
 refine bA hI 0 aW rfl (by simpa using hl5) ?_
 exact ⟨_,[],S4,rfl,hI.nil,(hE2.trans hE3).trans hE4,rfl,_,rfl,hR4⟩
def Fm (cs:List Value) (l:Bs):Prop:=cs=[.string (st l)]
theorem wQ (s:Bs) (c:Nat) (hs:s.length<=100000):Tri Tryz.prog Af [.string (st s),.int .u8 (c:Int)] [] S fun v I' S'=>I'=[]/\RdSl S' 1 Fm v (vH s c s.length 0 0 []):=by
 intro w hI
 refine tZ ?_
 unfold rf
 refine gx hI tp fun v0 w' hI=>?_
 obtain ⟨R,hR⟩:∃ R,R=vH s c s.length 0 0 []:=⟨_,rfl⟩
 rw [<- hR]
 refine ⟨fun t u v w'=>∃ (i fr:Nat) (acc:List Bs) (css:List (List Value)),t=.int .i64 (i:Int)/\u=.int .i64 (fr:Int)/\acc.length<=i/\((i<=s.length/\fr<=i/\vH s c (s.length - i) i fr acc=R) ∨ (i=s.length+1/\acc=R))/\Rows 1 Fm css acc/\Inv w [] [be v gz 1 css] S w',
  fun t _ _ _=>s.length+2 - (intOf t).toNat,⟨0,0,[],[],rfl,rfl,Nat.le_refl _,.inl ⟨Nat.zero_le _,Nat.le_refl _,hR.symm⟩,Rows.nil _ _,hI⟩,?_⟩
 intro t7 _ _ t6 _ _ t5 _ _ _ _ _ _ _ _ _ _ _ _ _ _ _ _ _ _ _ _ _ _ w'
 rintro ⟨i,fr,acc,css,rfl,rfl,hal,hc,hRw,hI⟩
 have hcl:=hRw.hc
 refine eA bf ?_
 refine fO ?_
 refine bz (fun hi=>?_) (fun hi=>?_)
 ·have hi':i<=s.length:=by omega
  obtain ⟨_,hfr,hcut⟩:i<=s.length/\fr<=i/\vH s c (s.length - i) i fr acc=R:=by
   rcases hc with h|h
   ·exact h
   ·omega
  obtain ⟨br,hbr⟩:∃ br,br=(decide (i=s.length) || sgn s i c):=⟨_,rfl⟩
  refine ⟨fun u v w'=>∃ (fr':Nat) (acc':List Bs) (css':List (List Value)),u=.int .i64 (fr':Int)/\acc'.length<=i+1/\fr'<=i+1/\acc'=(if br=true then acc++[cut s fr i] else acc)/\fr'=(if br=true then i+1 else fr)/\Rows 1 Fm css' acc'/\Inv w [] [be v gz 1 css'] S w',?_,?_⟩
  ·refine ⟨fun b w'=>b=.bool br/\Inv w [] [be t5 gz 1 css] S w',?_,?_⟩
   ·refine eA bf ?_
    by_cases he:i=s.length
    ·refine eK (by omega) ?_
     repeat (first|refine ad ?_|refine ag (by decide) ?_|refine ae ?_|refine aq ?_|refine al ?_)
     exact ⟨by rw [hbr,decide_eq_true he,Bool.true_or],hI⟩
    ·refine dR (by omega) ?_
     repeat (first|refine ad ?_|refine ag (by decide) ?_|refine ae ?_|refine aq ?_|refine al ?_)
     have hlt:i<s.length:=by omega
     refine dP bf hlt ?_
     refine bK ?_
     repeat (first|refine ad ?_|refine ag (by decide) ?_|refine ae ?_|refine aq ?_|refine al ?_)
     refine ⟨?_,hI⟩
     rw [hbr,decide_eq_false he,Bool.false_or,iE hlt]
     congr 1
     rw [decide_eq_decide]
     omega
   intro t25 _ _ _ _ _ _ _ _ _ _ w'
   rintro ⟨rfl,hI⟩
   refine bg (fun hb=>?_) (fun hb=>?_)
   ·refine sW bf hfr hi' ?_
    refine Br (css:=css) hI 0 tp rfl rfl rfl (by omega) (by omega) fun v' w' hI=>?_
    refine dZ (a:=i) (b:=1) rfl rfl (by omega) ?_
    refine ⟨i+1,acc++[cut s fr i],_,rfl,by rw [List.length_append]; simp only [List.length_cons,List.length_nil]; omega,Nat.le_refl _,by rw [if_pos hb],by rw [if_pos hb],hRw.snoc rfl rfl,hI⟩
   ·exact ⟨fr,acc,css,rfl,by omega,by omega,by rw [if_neg (by rw [hb]; decide)],by rw [if_neg (by rw [hb]; decide)],hRw,hI⟩
  intro t6 _ _ t5 _ _ _ _ _ _ _ _ _ _ _ _ _ _ _ _ _ _ w'
  rintro ⟨fr',acc',css',rfl,hal',hfr',hacc',hfe,hRw',hI⟩
  refine dZ (a:=i) (b:=1) rfl rfl (by omega) ?_
  refine ⟨⟨i+1,fr',acc',css',rfl,rfl,hal',?_,hRw',hI⟩,by simp only [intOf,Int.toNat_natCast]; omega⟩
  by_cases he:i=s.length
  ·right
   refine ⟨by rw [he],?_⟩
   rw [he,Nat.sub_self,vH,<- he] at hcut
   rw [hacc',if_pos (by rw [hbr,decide_eq_true he,Bool.true_or])]
   exact hcut
  ·left
   refine ⟨by omega,hfr',?_⟩
   rw [show s.length - i=(s.length - (i+1))+1 by omega,vH] at hcut
   rw [hbr,decide_eq_false he,Bool.false_or] at hacc' hfe
   split at hcut
   ·rename_i hsg
    rw [if_pos hsg] at hacc' hfe
    rw [hacc',hfe]
    exact hcut
   ·rename_i hsg
    rw [if_neg hsg] at hacc' hfe
    rw [hacc',hfe]
    exact hcut
 ·obtain ⟨_,rfl⟩:i=s.length+1/\acc=R:=by
   rcases hc with h|h
   ·omega
   ·exact h
  have hI2:Inv w [] ([]++[be t5 gz 1 css]) S w':=hI
  obtain ⟨S1,hE1,hrd,hI⟩:=Inv.lendExt hI2
  exact ⟨_,[],S1,rfl,hI,hE1,rfl,RowRd.rows hRw hrd⟩
theorem u9 {f:Nat} {ls:List Bs} {i:Nat} (h:i<ls.length) (acc:List C):iG f (ls.drop i) acc=match oT f ls[i] with
  | none=>none
  | some c=>iG f (ls.drop (i+1)) (acc++[c]):=by
 rw [List.drop_eq_getElem_cons h,iG]
 cases oT f ls[i] <;> rfl
theorem ne {f:Nat} (hf:f<=100) {s:Bs} {p:List C} (h:BT f s=some p) (hs:s.length<=100000):Tri Tryz.prog jt [.string (st s)] [] S fun v I' S'=>∃ u css,v=.tuple #[u,.bool true]/\I'=[be u ai 5 css]/\Rows 5 (RdC S') css p:=by
 intro w hI
 refine kH ?_
 unfold i5
 unfold BT C9 at h
 refine gx hI qP fun v0 w' hI=>?_
 refine Run.call0E yY zL hI (wQ s 10 hs) fun v I' S1 w'=>?_
 rintro ⟨rfl,hls⟩ hE1 hI
 have hI:Inv w [] [be v0 ai 5 []] S1 w':=hI
 obtain ⟨ls,hlsd⟩:∃ ls,ls=vH s 10 s.length 0 0 []:=⟨_,rfl⟩
 rw [<- hlsd] at hls h
 simp only [] at h
 split at h
 ·cases h
 rename_i hc
 simp only [not_or,ne_eq,Classical.not_not] at hc
 obtain ⟨hc1,hc2⟩:=hc
 have hl0:0<ls.length:=by
  cases ls with
  | nil=>simp at hc2
  | cons a l=>simp
 have hlast:ls[ls.length - 1]=[]:=by
  rw [List.getLast?_eq_getElem?,List.getElem?_eq_getElem (by omega)] at hc2
  exact Option.some.inj hc2
 refine ⟨fun b w'=>b=.bool false/\Inv w [] [be v0 ai 5 []] S1 w',?_,?_⟩
 ·refine bo hls cJ ?_
  refine jf (by omega) ?_
  repeat (first|refine ad ?_|refine ag (by decide) ?_|refine ae ?_|refine aq ?_|refine al ?_)
  refine bo hls cJ ?_
  refine uI (a:=ls.length) (b:=1) rfl rfl (by omega) (by omega) ?_
  have hlt:ls.length - 1<ls.length:=by omega
  obtain ⟨b,o,cap,c,E,fz,hv,hS,hR⟩:=hls.at_ hlt
  subst hv
  refine bv cJ hlt ?_
  refine d4 bq ((hI.cellS hS).trans (bC hR 0 _ rfl)) ?_
  refine B8 (b:=[]) ?_
  rw [decide_eq_true hlast]
  repeat (first|refine ad ?_|refine ag (by decide) ?_|refine ae ?_|refine aq ?_|refine al ?_)
  exact ⟨rfl,hI⟩
 intro t23 _ _ _ _ _ _ _ _ _ _ _ w'
 rintro ⟨rfl,hI⟩
 refine bg (fun hb=>by cases hb) (fun _=>?_)
 refine ⟨fun a b w'=>∃ (i:Nat) (acc:List C) (S2:ax) (css:List (List Value)),a=.int .i64 (i:Int)/\i+1<=ls.length/\acc.length=i/\iG f (ls.dropLast.drop i) acc=some p/\Sle S1 S2/\Ext w.heap.size [] S S2/\Rows 5 (RdC S2) css acc/\Inv w [] [be b ai 5 css] S2 w',
  fun a _ _=>ls.length - (intOf a).toNat,⟨0,[],S1,[],rfl,by omega,rfl,h,Sle.refl _,hE1,Rows.nil _ _,hI⟩,?_⟩
 intro t6 _ _ t4 _ _ _ _ _ _ _ _ _ _ _ _ _ _ _ _ _ _ _ _ _ _ _ _ w'
 rintro ⟨i,acc,S2,css,rfl,hi,hal,hcl,hle2,hE2,hR,hI⟩
 have hcs:=hR.hc
 refine dZ (a:=i) (b:=1) rfl rfl (by omega) ?_
 refine bo hls cJ ?_
 refine dh ?_
 have hdl:ls.dropLast.length=ls.length - 1:=List.length_dropLast
 refine bz (fun hlt=>?_) (fun hge=>?_)
 ·have hi':i<ls.length:=by omega
  have hi2:i<ls.dropLast.length:=by omega
  rw [u9 hi2] at hcl
  have eg:ls.dropLast[i]=ls[i]:=List.getElem_dropLast _
  rw [eg] at hcl
  obtain ⟨b,o,cap,c,E,fz,hv,hS,hRr⟩:=hls.at_ hi'
  subst hv
  split at hcl
  ·cases hcl
  rename_i cl hclf
  refine bv cJ hi' ?_
  refine d4 bq ((hI.cellS (hle2 _ _ hS)).trans (bC hRr 0 _ rfl)) ?_
  refine Run.call0E pJ pL hI (pG hf hclf) fun v I' S3 w'=>?_
  rintro ⟨rfl,ds,rfl,hds⟩ hE3 hI
  have hl5:=hds.length
  have hR3:=hR.monoR fun _ _ h=>RdC.mono hE3.1 h
  refine bj (v:=.agg ds.toArray) rfl ?_
  refine bj (v:=.bool true) rfl ?_
  refine bm hI bI fun b7 w' hI=>?_
  refine aX hI 1 rfl aW (by simpa using hl5) rfl (by simpa using hds.one) fun w' hI=>?_
  refine dT ?_
  refine bg (fun hb=>by cases hb) (fun _=>?_)
  refine bb hI 1 aW rfl (by simpa using hl5) ?_
  refine gc (css:=css) hI 0 _ qP (by omega) (by omega) rfl hl5 hds.one (by omega) (by omega) fun v' w' hI=>?_
  have hI:Inv w [] [be v' ai 5 (css++[ds])] S3 w':=hI.pick [true,false]
  refine dZ (a:=i) (b:=1) rfl rfl (by omega) ?_
  exact ⟨⟨i+1,acc++[cl],S3,_,rfl,by omega,by rw [List.length_append,hal]; rfl,hcl,hle2.trans hE3.1,hE2.trans hE3,hR3.snoc hds hl5,hI⟩,by simp only [intOf,Int.toNat_natCast]; omega⟩
 ·have hi2:ls.dropLast.length<=i:=by omega
  rw [List.drop_eq_nil_of_le hi2,iG] at hcl
  simp only [Option.some.injEq] at hcl
  subst hcl
  exact ⟨_,_,S2,rfl,hI,hE2,_,css,rfl,rfl,hR⟩
end
end Go.Proofs.YtmnnpgdeecnfpaaGreat

/- Whether terms are the same: both sides. -/
namespace Go.Proofs.YtmnnpgdeecnfpaaGreat
open Go Go.RowKit
attribute [local irreducible] Run CondV ah ba

def CK (t u:T):Bool:=decide (t.kind=u.kind) && (decide (t.n=u.n) && (decide (t.name=u.name) && decide (t.kids.length=u.kids.length)))
end Go.Proofs.YtmnnpgdeecnfpaaGreat

/- Whether terms are the same: the program's side. -/
namespace Go.Proofs.YtmnnpgdeecnfpaaGreat
open Go Go.RowKit
attribute [local irreducible] Run CondV ah ba

theorem pm {xs:List T} (ih:∀ t∈xs,∀ (u:T) (S:ax) (cs ds:List Value),RdT S cs t->RdT S ds u->Pure Tryz.prog jU [.agg cs.toArray,.agg ds.toArray] S (.bool (eqT t u)))
  {ys:List T} {S:ax} {v u:Value} (h:RdSl S 4 (RdT S) v xs) (h':RdSl S 4 (RdT S) u ys):Pure Tryz.prog mV [v,u,.func (.func jU) #[] #[]] S (.bool (eqL xs ys)):=by
 intro w hI
 have hlen:(xs.length:Int)<=9223372036854775807:=by have:=h.le; simp only [maxLen] at this; omega
 refine jY ?_
 unfold gJ
 refine bo h aS ?_
 refine bo h' aS ?_
 refine Cf ?_
 refine bg (fun hne=>?_) (fun he=>?_)
 ·exact done hI (by rw [ER (by simp at hne; omega)])
 have he:xs.length=ys.length:=by simp at he; omega
 refine bo h aS ?_
 refine ⟨fun i w'=>∃ (k:Nat),k<=xs.length/\i=.int .i64 k/\eqL (xs.drop k) (ys.drop k)=eqL xs ys/\Inv w [] [] S w',fun i _=>xs.length - (intOf i).toNat,⟨0,Nat.zero_le _,rfl,rfl,hI⟩,?_⟩
 intro t5 _ _ _ _ _ _ _ _ _ _ _ _ _ _ _ _ _ _ w'
 rintro ⟨k,hk,rfl,hrel,hI⟩
 refine dh ?_
 refine bz (fun hki=>?_) (fun hki=>?_)
 ·have hk1:k<xs.length:=by omega
  have hk2:k<ys.length:=by omega
  have hstep:eqL (xs.drop k) (ys.drop k)=(eqT xs[k] ys[k] && eqL (xs.drop (k+1)) (ys.drop (k+1))):=by
   rw [List.drop_eq_getElem_cons hk1,List.drop_eq_getElem_cons hk2,eqL]
  refine ei hI h aS aj hk1 (fun _ _=>RdT.length) fun cs hcs=>?_
  have hlc:=hcs.length
  refine bm hI bx fun b8 w' hI=>?_
  refine aX hI 0 rfl aj (by simpa using hlc) rfl (by simpa using hcs.one) fun w' hI=>?_
  refine ei hI h' aS aj hk2 (fun _ _=>RdT.length) fun ds hds=>?_
  have hld:=hds.length
  refine bm hI bx fun b9 w' hI=>?_
  refine aX hI 1 rfl aj (by simpa using hld) rfl (by simpa using hds.one) fun w' hI=>?_
  refine bb hI 0 aj rfl (by simpa using hlc) ?_
  refine bb hI 1 aj rfl (by simpa using hld) ?_
  refine Run.callPure jd jg hI (ih _ (List.getElem_mem hk1) _ S _ _ hcs hds) fun w' hI=>?_
  refine dT ?_
  refine bg (fun hne=>?_) (fun he'=>?_)
  ·exact done hI (by rw [<- hrel,hstep]; simp at hne; rw [hne]; rfl)
  ·refine ct (by omega) ?_
   refine ⟨⟨k+1,hk1,rfl,?_,hI.nil⟩,by simp [intOf]; omega⟩
   rw [<- hrel,hstep]
   simp at he'
   rw [he',Bool.true_and]
 ·have:k=xs.length:=by omega
  subst this
  refine done hI ?_
  rw [<- hrel,List.drop_length,he,List.drop_length]
  rfl
theorem gb:∀ (t u:T) (S:ax) (cs ds:List Value),RdT S cs t->RdT S ds u->Pure Tryz.prog jU [.agg cs.toArray,.agg ds.toArray] S (.bool (eqT t u)):=by
 refine T.ind fun k n s ks ih u S cs ds h h'=>?_
 intro w hI
 obtain ⟨kv,rfl,_,_,_,hks⟩:=RdT.iff.1 h
 obtain ⟨kv',rfl,_,_,_,hks'⟩:=RdT.iff.1 h'
 obtain ⟨k',n',s',ks'⟩:=u
 simp only [T.name,T.kids,T.kind,T.n] at hks hks' ⊢
 refine pR ?_
 unfold ml;dsimp only
 refine co hI fun b1 w' hI=>?_
 refine co hI fun b2 w' hI=>?_
 refine aH hI 0 rfl bF bw rfl ?_
 refine aH hI 1 rfl bF bw rfl ?_
 refine bK ?_
 by_cases e1:k=k'
 ·rw [decide_eq_true e1]
  repeat (first|refine ad ?_|refine ag (by decide) ?_|refine ae ?_|refine aq ?_|refine al ?_)
  refine aH hI 0 rfl bE bw rfl ?_
  refine aH hI 1 rfl bE bw rfl ?_
  refine bK ?_
  by_cases e2:n=n'
  ·rw [decide_eq_true e2]
   repeat (first|refine ad ?_|refine ag (by decide) ?_|refine ae ?_|refine aq ?_|refine al ?_)
   refine aH hI 0 rfl bu bq rfl ?_
   refine aH hI 1 rfl bu bq rfl ?_
   refine cr ?_
   by_cases e3:s=s'
   ·rw [decide_eq_true e3]
    repeat (first|refine ad ?_|refine ag (by decide) ?_|refine ae ?_|refine aq ?_|refine al ?_)
    refine aH hI 0 rfl a9 aV rfl ?_
    refine aH hI 1 rfl a9 aV rfl ?_
    refine Run.callPure gP gQ hI (pm ih hks hks') fun w' hI=>?_
    repeat (first|refine ad ?_|refine ag (by decide) ?_|refine ae ?_|refine aq ?_|refine al ?_)
    exact done hI (by rw [eqT,decide_eq_true e1,decide_eq_true e2,decide_eq_true e3]; rfl)
   ·rw [decide_eq_false e3]
    repeat (first|refine ad ?_|refine ag (by decide) ?_|refine ae ?_|refine aq ?_|refine al ?_)
    exact done hI (by rw [eqT,decide_eq_true e1,decide_eq_true e2,decide_eq_false e3]; rfl)
  ·rw [decide_eq_false e2]
   repeat (first|refine ad ?_|refine ag (by decide) ?_|refine ae ?_|refine aq ?_|refine al ?_)
   exact done hI (by rw [eqT,decide_eq_true e1,decide_eq_false e2]; rfl)
 ·rw [decide_eq_false e1]
  repeat (first|refine ad ?_|refine ag (by decide) ?_|refine ae ?_|refine aq ?_|refine al ?_)
  exact done hI (by rw [eqT,decide_eq_false e1]; rfl)

end Go.Proofs.YtmnnpgdeecnfpaaGreat

/- Maps from numbers to terms. -/
namespace Go.Proofs.YtmnnpgdeecnfpaaGreat
open Go Go.RowKit

section
variable {P:Program} {w w0:World} {X:List Nat} {L:List Item} {S:ax} {K:Value->World->Prop}
attribute [local irreducible] Run CondV ah ba
end

end Go.Proofs.YtmnnpgdeecnfpaaGreat

/- Matching a general term to a special one: the plain form, and spec.l3Match. -/
namespace Go.Proofs.YtmnnpgdeecnfpaaGreat
open Go Go.RowKit

abbrev cv:=List (Option T)
/- variables within the table; kinds that are kinds -/
mutual
def okV:T->Prop
 | .mk k n _ ks=>(k=1->0<=n/\n<=25)/\rU ks
def rU:List T->Prop
 | []=>True
 | t::ts=>okV t/\rU ts
end
mutual
def okK:T->Prop
 | .mk k _ _ ks=>k≠0/\wX ks
def wX:List T->Prop
 | []=>True
 | t::ts=>okK t/\wX ts
end
theorem DY {t:T} (h:et t=true):(t.kind=1->0<=t.n/\t.n<=25)/\t.kind≠0:=by
 unfold et at h
 refine ⟨fun hk=>?_,fun hk=>?_⟩
 ·rw [if_pos hk] at h
  simp only [Bool.and_eq_true,decide_eq_true_eq] at h
  exact ⟨h.1,h.2.1⟩
 ·rw [if_neg (by omega),if_neg (by omega),if_neg (by omega)] at h
  cases h
mutual
theorem yT:∀ (t:T) (d:Int),dG t d=true->okV t/\okK t
 | .mk k n s ks,d,h=>by
  rw [dG] at h
  split at h
  ·cases h
  ·simp only [Bool.and_eq_true] at h
   obtain ⟨h1,h2⟩:=h
   obtain ⟨h3,h4⟩:=v9 ks (d - 1) h2
   rw [okV,okK]
   obtain ⟨h5,h6⟩:=DY h1
   exact ⟨⟨h5,h3⟩,⟨h6,h4⟩⟩
theorem v9:∀ (ts:List T) (d:Int),dx ts d=true->rU ts/\wX ts
 | [],d,h=>by simp [rU,wX]
 | t::ts,d,h=>by
  rw [dx,Bool.and_eq_true] at h
  obtain ⟨h1,h2⟩:=yT t d h.1
  obtain ⟨h3,h4⟩:=v9 ts d h.2
  rw [rU,wX]
  exact ⟨⟨h1,h3⟩,⟨h2,h4⟩⟩
end
theorem zh {t:T} (h:dA t=true):okV t/\okK t:=by
 rw [dA,Bool.and_eq_true] at h
 exact yT t 30 h.1
def B9:List Value:=[.int .i64 0,.int .i64 0,.string ⟨#[]⟩,.slice none 0 0]
/- the table of spec.l3Match -/
def KnownC (S:ax) (c:Array Value) (st:cv):Prop:=104<=c.size/\∀ i (h:i<st.length),(st[i]=none->bB c (i * 4) 4=B9)/\(∀ t,st[i]=some t->RdT S (bB c (i * 4) 4) t)
theorem KnownC.set {S:ax} {c:Array Value} {st:cv} (h:KnownC S c st) {n:Nat} (hn:n<26) {cs:List Value} {u:T} (hu:RdT S cs u):KnownC S (cu c (n * 4) cs) (st.set n (some u)):=by
 have hlc:=hu.length
 have h1:=h.1
 have hs:104<=(cu c (n * 4) cs).size:=by rw [mE _ _ _ (by omega)]; exact h1
 refine ⟨hs,fun i hi=>?_⟩
 rw [List.length_set] at hi
 by_cases e:n=i
 ·subst e
  rw [List.getElem_set_self]
  refine ⟨fun h=>(by cases h),fun t ht=>?_⟩
  simp only [Option.some.injEq] at ht
  subst ht
  have:=ge (c:=c) (o:=n * 4) (vs:=cs) (by omega)
  rw [hlc] at this
  rw [this]
  exact hu
 ·rw [List.getElem_set_ne e,iB (by omega) (by omega)]
  exact h.2 i hi
section
attribute [local irreducible] Run CondV ah ba
abbrev kvn (kb kp:Nat):Value:=.slice (some ⟨kb,0,none⟩) 26 kp
abbrev kv0 (kb:Nat):Value:=kvn kb 26
end

end Go.Proofs.YtmnnpgdeecnfpaaGreat

/- Variables numbered anew: the plain form of both sides. -/
namespace Go.Proofs.YtmnnpgdeecnfpaaGreat
open Go Go.RowKit

def gk:List Int->Int->Int->Nat->Int
 | [],_,cur,_=>cur
 | x::xs,n,cur,k=>gk xs n (if x=n then (k:Int) else cur) (k+1)
def gv (vs:List Int) (n:Int):Int:=(cI (σ:=Unit) (fun _ x=>(decide (n=x),())) () vs 0).1
mutual
def cL (vs:List Int):T->T
 | .mk k n s ks=>.mk k (if k=1 then gk vs n n 0 else n) s (dE vs ks)
def dE (vs:List Int):List T->List T
 | []=>[]
 | t::ts=>cL vs t::dE vs ts
end
mutual
def fT (vs:List Int):T->T
 | .mk k n s ks=>if k=1 then .mk 1 (gv vs n) ⟨#[]⟩ [] else .mk k n s (eG vs ks)
def eG (vs:List Int):List T->List T
 | []=>[]
 | t::ts=>fT vs t::eG vs ts
end
theorem wA:∀ (xs:List Int) (n cur:Int) (k:Nat),n ∉ xs->gk xs n cur k=cur
 | [],n,cur,k,_=>rfl
 | x::xs,n,cur,k,h=>by
  rw [gk,if_neg (fun e=>h (by rw [e]; exact List.mem_cons_self ..)),wA xs n cur (k+1) fun e=>h (List.mem_cons_of_mem _ e)]
theorem pX:∀ (xs:List Int) (n cur:Int) (k:Nat),n∈xs->xs.Nodup->gk xs n cur k=(cI (σ:=Unit) (fun _ x=>(decide (n=x),())) () xs k).1
 | x::xs,n,cur,k,h,hd=>by
  rw [List.nodup_cons] at hd
  rw [gk,cI]
  by_cases e:x=n
  ·subst e
   rw [if_pos rfl,wA _ _ _ _ hd.1]
   simp
  ·rw [if_neg e]
   have h':n∈xs:=by
    rcases List.mem_cons.1 h with h|h
    ·exact absurd h.symm e
    ·exact h
   have:decide (n=x)=false:=decide_eq_false fun q=>e q.symm
   simp only [this,Bool.false_eq_true,if_false]
   exact pX xs n cur (k+1) h' hd.2
theorem vZ:∀ (xs:List Int) (n cur:Int) (k:Nat),gk xs n cur k=cur ∨ (0<=gk xs n cur k/\gk xs n cur k<k+xs.length)
 | [],n,cur,k=>.inl rfl
 | x::xs,n,cur,k=>by
  rw [gk]
  rcases vZ xs n (if x=n then (k:Int) else cur) (k+1) with h|h
  ·split at h
   ·right; rw [if_pos (by assumption),h]; simp; omega
   ·left; rw [if_neg (by assumption)]; exact h
  ·right
   simp only [List.length_cons]
   omega
theorem DZ (vs:List Int) (n:Int):-1<=gv vs n/\gv vs n<vs.length+1:=by
 have:∀ (xs:List Int) (k:Nat),-1<=(cI (σ:=Unit) (fun _ x=>(decide (n=x),())) () xs k).1/\(cI (σ:=Unit) (fun _ x=>(decide (n=x),())) () xs k).1<k+xs.length+1:=by
  intro xs
  induction xs with
  | nil=>intro k; simp [cI]; omega
  | cons x xs ih=>
   intro k
   rw [cI]
   have:=ih (k+1)
   split
   ·simp; omega
   ·simp only [List.length_cons]; omega
 have h:=this vs 0
 rw [gv]
 omega
mutual
def inT (vs:List Int):T->Prop
 | .mk k n _ ks=>(k=1->n∈vs)/\inL vs ks
def inL (vs:List Int):List T->Prop
 | []=>True
 | t::ts=>inT vs t/\inL vs ts
end
theorem oM (l:List Int) (n:Int):sw l n=true↔n∈l:=by
 simp [sw]
theorem zu (l:List Int) (n:Int):n∈gI l n/\∀ m∈l,m∈gI l n:=by
 unfold gI
 split
 ·rename_i h; exact ⟨(oM l n).1 h,fun m h=>h⟩
 ·exact ⟨by simp,fun m h=>by simp [h]⟩
theorem Ax {l:List Int} (n:Int) (h:l.Nodup):(gI l n).Nodup:=by
 unfold gI
 split
 ·exact h
 ·rename_i hn
  rw [List.nodup_append]
  refine ⟨h,by simp,fun a ha b hb e=>hn ((oM l n).2 ?_)⟩
  simp at hb
  rw [<- hb,<- e]
  exact ha
mutual
theorem CZ:∀ (t:T) (l:List Int),∀ m∈l,m∈eE t l
 | .mk k n s ks,l,m,h=>by
  rw [eE]
  refine lV ks _ m ?_
  split
  ·exact (zu l n).2 m h
  ·exact h
theorem lV:∀ (ts:List T) (l:List Int),∀ m∈l,m∈df ts l
 | [],l,m,h=>h
 | t::ts,l,m,h=>by
  rw [df]
  exact lV ts _ m (CZ t l m h)
end
mutual
theorem za:∀ (t:T) (l:List Int),l.Nodup->(eE t l).Nodup
 | .mk k n s ks,l,h=>by
  rw [eE]
  refine iX ks _ ?_
  split
  ·exact Ax n h
  ·exact h
theorem iX:∀ (ts:List T) (l:List Int),l.Nodup->(df ts l).Nodup
 | [],l,h=>h
 | t::ts,l,h=>by
  rw [df]
  exact iX ts _ (za t l h)
end
mutual
theorem yg {vs ws:List Int} (h:∀ m∈vs,m∈ws):∀ t:T,inT vs t->inT ws t
 | .mk k n s ks,hi=>by
  rw [inT] at hi ⊢
  exact ⟨fun e=>h _ (hi.1 e),zC h ks hi.2⟩
theorem zC {vs ws:List Int} (h:∀ m∈vs,m∈ws):∀ ts:List T,inL vs ts->inL ws ts
 | [],_=>by simp [inL]
 | t::ts,hi=>by
  rw [inL] at hi ⊢
  exact ⟨yg h t hi.1,zC h ts hi.2⟩
end
mutual
theorem Dz:∀ (t:T) (l:List Int),inT (eE t l) t
 | .mk k n s ks,l=>by
  rw [eE,inT]
  refine ⟨fun e=>lV ks _ n ?_,nR ks _⟩
  rw [if_pos e]
  exact (zu l n).1
theorem nR:∀ (ts:List T) (l:List Int),inL (df ts l) ts
 | [],l=>by simp [inL]
 | t::ts,l=>by
  rw [df,inL]
  exact ⟨yg (lV ts _) t (Dz t l),nR ts _⟩
end
theorem zm {t:T} (h:et t=true) (hk:t.kind=1):t.name=emptyB/\t.kids.length=0:=by
 unfold et at h
 rw [if_pos hk] at h
 simp only [Bool.and_eq_true,decide_eq_true_eq] at h
 exact ⟨h.2.2.1,h.2.2.2⟩
mutual
theorem BX (vs:List Int) (hd:vs.Nodup):∀ (t:T) (d:Int),dG t d=true->inT vs t->cL vs t=fT vs t
 | .mk k n s ks,d,h,hi=>by
  rw [dG] at h
  rw [inT] at hi
  split at h
  ·cases h
  ·rw [Bool.and_eq_true] at h
   have h2:=xd vs hd ks (d - 1) h.2 hi.2
   rw [cL,fT]
   by_cases e:k=1
   ·obtain ⟨e1,e2⟩:=zm h.1 e
    have e1':s=⟨#[]⟩:=e1
    have e2':ks=[]:=List.eq_nil_of_length_eq_zero e2
    subst e1' e2' e
    rw [if_pos rfl,if_pos rfl,pX vs n n 0 (hi.1 rfl) hd]
    rfl
   ·rw [if_neg e,if_neg e,h2]
theorem xd (vs:List Int) (hd:vs.Nodup):∀ (ts:List T) (d:Int),dx ts d=true->inL vs ts->dE vs ts=eG vs ts
 | [],d,_,_=>rfl
 | t::ts,d,h,hi=>by
  rw [dx,Bool.and_eq_true] at h
  rw [inL] at hi
  rw [dE,eG,BX vs hd t d h.1 hi.1,xd vs hd ts d h.2 hi.2]
end
theorem gY (vs:List Int):∀ ts:List T,(dE vs ts).length=ts.length
 | []=>rfl
 | t::ts=>by rw [dE]; simp [gY vs ts]
theorem qo (vs:List Int):∀ ts:List T,(eG vs ts).length=ts.length
 | []=>rfl
 | t::ts=>by rw [eG]; simp [qo vs ts]
theorem sY (vs:List Int) (ts:List T) (j:Nat) (h:j<ts.length):dE vs (ts.take (j+1))=dE vs (ts.take j)++[cL vs ts[j]]:=by
 have:∀ (xs ys:List T),dE vs (xs++ys)=dE vs xs++dE vs ys:=by
  intro xs ys
  induction xs with
  | nil=>rfl
  | cons x xs ih=>simp [dE,ih]
 rw [List.take_succ_eq_append_getElem h,this]; rfl
theorem tN (vs:List Int) (ts:List T) (j:Nat) (h:j<ts.length):eG vs (ts.take (j+1))=eG vs (ts.take j)++[fT vs ts[j]]:=by
 have:∀ (xs ys:List T),eG vs (xs++ys)=eG vs xs++eG vs ys:=by
  intro xs ys
  induction xs with
  | nil=>rfl
  | cons x xs ih=>simp [eG,ih]
 rw [List.take_succ_eq_append_getElem h,this]; rfl
def jM (vs:List Int) (c:C):C:=⟨cL vs c.head,dE vs c.body⟩
def bp (c:C):List Int:=dK (c.head::c.body) []
theorem tK {c:C} (h:bH c=true):df (c.head::c.body) []=bp c/\fT (bp c) c.head=cL (bp c) c.head/\eG (bp c) c.body=dE (bp c) c.body:=by
 have hv:df (c.head::c.body) []=bp c:=by
  rw [bp,df,dK,<- (qC h []).1,(qC h (fl c.head [])).2]
 have hd:(bp c).Nodup:=by rw [<- hv]; exact iX _ _ List.nodup_nil
 have hi:inL (bp c) (c.head::c.body):=by rw [<- hv]; exact nR _ _
 rw [inL] at hi
 rw [bH] at h
 simp only [Bool.and_eq_true,List.all_eq_true] at h
 obtain ⟨_,h2,h3,_⟩:=h
 rw [dA,Bool.and_eq_true] at h3
 have hb:∀ ts:List T,(∀ t∈ts,eL t=true)->dx ts 30=true:=by
  intro ts
  induction ts with
  | nil=>intro _; rfl
  | cons t ts ih=>
   intro ht
   rw [dx,Bool.and_eq_true]
   have h1:=ht t (List.mem_cons_self ..)
   rw [eL,Bool.and_eq_true,dA,Bool.and_eq_true] at h1
   exact ⟨h1.1.1,ih fun u hu=>ht u (List.mem_cons_of_mem _ hu)⟩
 exact ⟨hv,(BX _ hd _ _ h3.1 hi.1).symm,(xd _ hd _ _ (hb _ h2) hi.2).symm⟩

end Go.Proofs.YtmnnpgdeecnfpaaGreat

/- Unification: the plain form. Lists of bindings, what a variable reaches, unifiers, resolved terms. -/
namespace Go.Proofs.YtmnnpgdeecnfpaaGreat
open Go Go.RowKit
/- terms whose variables are bare and below a number -/
mutual
def okU (N:Nat):T->Prop
 | .mk k n s ks=>k≠0/\(k=1->0<=n/\n<N/\s=emptyB/\ks=[])/\fC N ks/\s.size<=6
def fC (N:Nat):List T->Prop
 | []=>True
 | t::ts=>okU N t/\fC N ts
end
mutual
def vT:T->List Nat
 | .mk k n _ ks=>if k=1 then [n.toNat] else vTL ks
def vTL:List T->List Nat
 | []=>[]
 | t::ts=>vT t++vTL ts
end
theorem oL {N:Nat}:∀ {ts:List T},fC N ts->∀ t∈ts,okU N t
 | t::ts,h,x,hx=>by
  rw [fC] at h
  rcases List.mem_cons.1 hx with rfl|hx
  ·exact h.1
  ·exact oL h.2 x hx
theorem EO {N:Nat}:∀ {ts:List T},(∀ t∈ts,okU N t)->fC N ts
 | [],_=>by rw [fC]; trivial
 | t::ts,h=>by rw [fC]; exact ⟨h t (List.mem_cons_self ..),EO fun u hu=>h u (List.mem_cons_of_mem _ hu)⟩
theorem okU.kids {N:Nat} {t:T} (h:okU N t):fC N t.kids:=by cases t; rw [okU] at h; exact h.2.2.1
theorem okU.var {N:Nat} {t:T} (h:okU N t) (hk:t.kind=1):0<=t.n/\t.n<N/\t.name=emptyB/\t.kids=[]:=by cases t; rw [okU] at h; exact h.2.1 hk
theorem okU.kind {N:Nat} {t:T} (h:okU N t):t.kind≠0:=by cases t; rw [okU] at h; exact h.1
/- what a term is bound to -/
def xR (st:cv) (t:T):Option T:=if t.kind=1 then (st[t.n.toNat]?).join else none
theorem CB {st:cv} {t u:T}:xR st t=some u↔t.kind=1/\st[t.n.toNat]?=some (some u):=by
 unfold xR
 split
 ·rename_i h
  simp only [Option.join_eq_some_iff]
  exact ⟨fun e=>⟨h,e⟩,fun e=>e.2⟩
 ·rename_i h
  simp [h]
theorem Cp {st:cv} {t:T}:xR st t=none↔(t.kind=1->st[t.n.toNat]?=none ∨ st[t.n.toNat]?=some none):=by
 unfold xR
 split
 ·rename_i h
  rw [Option.join_eq_none_iff]
  constructor
  ·intro e _
   rcases e with e|e
   ·exact .inl e
   ·exact .inr e
  ·intro e
   rcases e h with e|e
   ·exact .inl e
   ·exact .inr e
 ·rename_i h
  simp [h]
inductive fo (st:cv):T->T->Prop
 | stop {t:T}:xR st t=none->fo st t t
 | step {t u v:T}:xR st t=some u->fo st u v->fo st t v
inductive Rch (st:cv):Nat->Nat->Prop
 | refl (m:Nat):Rch st m m
 | step {m k n:Nat} {u:T}:st[m]?=some (some u)->k∈vT u->Rch st k n->Rch st m n
theorem Rch.trans {st:cv} {a b c:Nat} (h:Rch st a b) (h':Rch st b c):Rch st a c:=by
 induction h with
 | refl=>exact h'
 | step h1 h2 _ ih=>exact .step h1 h2 (ih h')
def xM (st:cv) (n:Nat) (t:T):Prop:=∃ m∈vT t,Rch st m n
structure Good (N:Nat) (st:cv):Prop where
 len:st.length=N
 ok:∀ t,some t∈st->okU N t
 w:∀ t,some t∈st->wT t<=1048576
 rk:∃ r:Nat->Nat,∀ (n:Nat) (u:T),st[n]?=some (some u)->∀ m∈vT u,r m<r n
theorem Good.look_ok {N:Nat} {st:cv} (h:Good N st) {t u:T} (hl:xR st t=some u):okU N u/\wT u<=1048576:=by
 have:=List.mem_of_getElem? (CB.1 hl).2
 exact ⟨h.ok u this,h.w u this⟩
theorem i0 {N:Nat} {st:cv} {t v:T} (h:Good N st) (hw:fo st t v) (ht:okU N t/\wT t<=1048576):okU N v/\wT v<=1048576:=by
 induction hw with
 | stop=>exact ht
 | step hl _ ih=>exact ih (h.look_ok hl)
theorem ww {st:cv} {t v:T} (hw:fo st t v):xR st v=none:=by
 induction hw with
 | stop h=>exact h
 | step _ _ ih=>exact ih
/- what a walk leaves open -/
/- bindings that are left -/
def unb:cv->Nat
 | []=>0
 | none::st=>unb st+1
 | some _::st=>unb st
theorem xj:∀ (st:cv) (n:Nat) (t:T),st[n]?=some none->unb (st.set n (some t))+1=unb st
 | [],n,t,h=>by simp at h
 | x::st,0,t,h=>by
  simp only [List.getElem?_cons_zero,Option.some.injEq] at h
  subst h
  rfl
 | x::st,n+1,t,h=>by
  have h':st[n]?=some none:=by simpa using h
  have:=xj st n t h'
  cases x <;> simp only [List.set_cons_succ,unb] <;> omega
open Classical in
theorem Good.set {N:Nat} {st:cv} (h:Good N st) {n:Nat} {t:T} (hn:st[n]?=some none) (ht:okU N t) (hw:wT t<=1048576) (ho:¬ xM st n t):Good N (st.set n (some t)):=by
 have hnl:n<st.length:=(List.getElem?_eq_some_iff.1 hn).1
 refine ⟨by rw [List.length_set]; exact h.len,fun u hu=>?_,fun u hu=>?_,?_⟩
 ·rcases List.mem_or_eq_of_mem_set hu with hu|hu
  ·exact h.ok u hu
  ·rw [Option.some.injEq] at hu
   rw [hu]; exact ht
 ·rcases List.mem_or_eq_of_mem_set hu with hu|hu
  ·exact h.w u hu
  ·rw [Option.some.injEq] at hu
   rw [hu]; exact hw
 ·obtain ⟨r,hr⟩:=h.rk
  have hM:∀ l:List Nat,∃ M,∀ m∈l,r m<=M:=by
   intro l
   induction l with
   | nil=>exact ⟨0,by simp⟩
   | cons x l ih=>
    obtain ⟨M,hM⟩:=ih
    refine ⟨M+r x,fun m hm=>?_⟩
    rcases List.mem_cons.1 hm with rfl|hm
    ·omega
    ·have:=hM m hm; omega
  obtain ⟨M,hM⟩:=hM (vT t)
  refine ⟨fun m=>if Rch st m n then r m+M+1 else r m,fun k u hku m hm=>?_⟩
  by_cases hkn:n=k
  ·subst hkn
   rw [List.getElem?_set_self hnl,Option.some.injEq,Option.some.injEq] at hku
   subst hku
   have h1:¬ Rch st m n:=fun e=>ho ⟨m,hm,e⟩
   have h2:=hM m hm
   simp only [if_neg h1,if_pos (Rch.refl (st:=st) n)]
   omega
  ·rw [List.getElem?_set_ne hkn] at hku
   have h1:=hr k u hku m hm
   by_cases hmn:Rch st m n
   ·have h2:Rch st k n:=.step hku hm hmn
    simp only [if_pos hmn,if_pos h2]
    omega
   ·simp only [if_neg hmn]
    split <;> omega
/- unification -/
inductive Job where
 | one (a b:T)
 | list (xs ys:List T)
inductive Uni:cv->Job->Bool->cv->Prop
 | same {st:cv} {a b a' b':T}:fo st a a'->fo st b b'->a'.kind=1->b'.kind=1->a'.n=b'.n->Uni st (.one a b) true st
 | bindA {st:cv} {a b a' b':T}:fo st a a'->fo st b b'->a'.kind=1->¬ (b'.kind=1/\a'.n=b'.n)->¬ xM st a'.n.toNat b'->Uni st (.one a b) true (st.set a'.n.toNat (some b'))
 | occA {st:cv} {a b a' b':T}:fo st a a'->fo st b b'->a'.kind=1->¬ (b'.kind=1/\a'.n=b'.n)->xM st a'.n.toNat b'->Uni st (.one a b) false st
 | bindB {st:cv} {a b a' b':T}:fo st a a'->fo st b b'->a'.kind≠1->b'.kind=1->¬ xM st b'.n.toNat a'->Uni st (.one a b) true (st.set b'.n.toNat (some a'))
 | occB {st:cv} {a b a' b':T}:fo st a a'->fo st b b'->a'.kind≠1->b'.kind=1->xM st b'.n.toNat a'->Uni st (.one a b) false st
 | clash {st:cv} {a b a' b':T}:fo st a a'->fo st b b'->a'.kind≠1->b'.kind≠1->CK a' b'=false->Uni st (.one a b) false st
 | kids {st st':cv} {a b a' b':T} {r:Bool}:fo st a a'->fo st b b'->a'.kind≠1->b'.kind≠1->CK a' b'=true->Uni st (.list a'.kids b'.kids) r st'->Uni st (.one a b) r st'
 | nil {st:cv}:Uni st (.list [] []) true st
 | stop {st st':cv} {a b:T} {xs ys:List T}:Uni st (.one a b) false st'->Uni st (.list (a::xs) (b::ys)) false st'
 | go {st st1 st':cv} {a b:T} {xs ys:List T} {r:Bool}:Uni st (.one a b) true st1->Uni st1 (.list xs ys) r st'->Uni st (.list (a::xs) (b::ys)) r st'
def okJ (N:Nat):Job->Prop
 | .one a b=>(okU N a/\wT a<=1048576)/\(okU N b/\wT b<=1048576)
 | .list xs ys=>(∀ a∈xs,okU N a/\wT a<=1048576)/\(∀ b∈ys,okU N b/\wT b<=1048576)/\xs.length=ys.length
theorem sI {N:Nat} {t:T} (h:okU N t/\wT t<=1048576):∀ x∈t.kids,okU N x/\wT x<=1048576:=by
 intro x hx
 refine ⟨oL h.1.kids x hx,?_⟩
 have h1:=fV hx
 have h2:=h.2
 cases t
 rw [wT] at h2
 simp only [T.kids] at h1
 omega
theorem zy {a b:T} (h:CK a b=true):a.kids.length=b.kids.length:=by
 rw [CK] at h
 simp only [Bool.and_eq_true,decide_eq_true_eq] at h
 exact h.2.2.2
theorem yK {N:Nat} {st:cv} (h:Good N st) {a:T} (hk:a.kind=1) (hl:xR st a=none) (ho:okU N a):st[a.n.toNat]?=some none:=by
 obtain ⟨h0,h1,_⟩:=ho.var hk
 rcases Cp.1 hl hk with e|e
 ·have:=List.getElem?_eq_none_iff.1 e
  have:=h.len
  omega
 ·exact e
theorem Uni.good {N:Nat} {st st':cv} {j:Job} {r:Bool} (hu:Uni st j r st'):Good N st->okJ N j->Good N st'/\(st'=st ∨ unb st'<unb st):=by
 induction hu with
 | same=>exact fun h _=>⟨h,.inl rfl⟩
 | occA=>exact fun h _=>⟨h,.inl rfl⟩
 | occB=>exact fun h _=>⟨h,.inl rfl⟩
 | clash=>exact fun h _=>⟨h,.inl rfl⟩
 | nil=>exact fun h _=>⟨h,.inl rfl⟩
 | bindA ha hb hk hns ho=>
  rename_i a' b'
  intro h hj
  have h1:=i0 h ha hj.1
  have h2:=i0 h hb hj.2
  have hf:=yK h hk (ww ha) h1.1
  have:=xj _ _ b' hf
  exact ⟨h.set hf h2.1 h2.2 ho,.inr (by omega)⟩
 | bindB ha hb hns hk ho=>
  rename_i a' b'
  intro h hj
  have h1:=i0 h ha hj.1
  have h2:=i0 h hb hj.2
  have hf:=yK h hk (ww hb) h2.1
  have:=xj _ _ a' hf
  exact ⟨h.set hf h1.1 h1.2 ho,.inr (by omega)⟩
 | kids ha hb _ _ hd _ ih=>
  intro h hj
  exact ih h ⟨sI (i0 h ha hj.1),sI (i0 h hb hj.2),zy hd⟩
 | stop _ ih=>
  intro h hj
  exact ih h ⟨hj.1 _ (List.mem_cons_self ..),hj.2.1 _ (List.mem_cons_self ..)⟩
 | go _ _ ih1 ih2=>
  intro h hj
  obtain ⟨h1,h2⟩:=ih1 h ⟨hj.1 _ (List.mem_cons_self ..),hj.2.1 _ (List.mem_cons_self ..)⟩
  obtain ⟨h3,h4⟩:=ih2 h1 ⟨fun a ha=>hj.1 a (List.mem_cons_of_mem _ ha),fun b hb=>hj.2.1 b (List.mem_cons_of_mem _ hb),by have:=hj.2.2; simpa using this⟩
  refine ⟨h3,?_⟩
  rcases h2 with rfl|h2
  ·exact h4
  ·rcases h4 with rfl|h4
   ·exact .inr h2
   ·exact .inr (by omega)
/- resolved terms -/
end Go.Proofs.YtmnnpgdeecnfpaaGreat

/- Terms drawn: literal lists, appends in any order, spec.l1Draw, l1Some, l1Mutate: what is drawn is readable and light. -/
namespace Go.Proofs.YtmnnpgdeecnfpaaGreat
open Go Go.RowKit
theorem Dy {b:Bool} {n:Nat} (h:b=decide (1<=n)) (h':b=false):n=0:=by
 rw [h',eq_comm,decide_eq_false_iff_not] at h; omega
theorem je {a b:Bool} {k n:Nat} (h:a=decide (k<=n)) (ha:a=true) (h':b=decide (k+1<=n)) (hb:b=false):n=k:=by
 rw [ha,eq_comm,decide_eq_true_iff] at h
 rw [hb,eq_comm,decide_eq_false_iff_not] at h'
 omega
theorem DW {b:Bool} {n m:Nat} (hl:n<=m) (h:b=decide (m<=n)) (hb:b=true):n=m:=by
 rw [hb,eq_comm,decide_eq_true_iff] at h; omega
theorem C6 {b l:Bool} {n m:Nat} (h:b=decide (m<=n)) (k:b=true->l=true) (hl:l=false):n<m:=by
 cases b
 ·rw [eq_comm,decide_eq_false_iff_not] at h; omega
 ·rw [k rfl] at hl; cases hl
def Dk:List (Nat × Value)->List ByteArray
 | (_,.string s)::l=>s::Dk l
 | _=>[]
def Ef:List (Nat × Value)->List Int
 | (_,.int _ n)::l=>n::Ef l
 | _=>[]
theorem Ej {α:Type} {f:α->Value} (l:List α) {i:Nat} (hi:i<l.length):bB (l.map f).toArray i 1=[f l[i]]:=by
 rw [bB,List.drop_eq_getElem_cons (by simpa using hi)]
 simp
theorem RdSl.monoU {S S':ax} {v:Value} {ys:List Nat} (hs:Sle S S') (h:RdSl S 1 jA v ys):RdSl S' 1 jA v ys:=h.mono hs fun _ _ h=>h
theorem Eh {S:ax} {b:Nat} {E:TypeId} {cs:List Value} {t:T} (hS:S b=some (.cells cs.toArray E)) (h:RdT S cs t):RdSl S 4 (RdT S) (.slice (some ⟨b,0,none⟩) 1 1) [t]:=by
 refine ⟨_,1,rfl,Nat.le_refl _,by simp [maxLen],.inr ⟨b,0,_,E,(0,0),rfl,hS,fun i hi=>?_⟩⟩
 match i,hi with
 | 0,_=>
  have e:bB cs.toArray (0+0 * 4) 4=cs:=by
   rw [bB]
   simpa using List.take_of_length_le (Nat.le_of_eq h.length)
  rw [e]
  exact h
section
variable {w0 w:World} {X:List Nat} {L A:List Item} {S:ax} {K:Value->World->Prop}
attribute [local irreducible] Run CondV ah ba
theorem Inv.last (h:Inv w0 X L S w) (i:Nat) {it:Item} (hi:L[i]?=some it):Inv w0 X (L.eraseIdx i++[it]) S w:=by
 refine h.perm ?_
 obtain ⟨h1,_⟩:=ql hi it
 rw [List.eraseIdx_eq_take_drop_succ]
 conv=>rhs; rw [h1]
 rw [List.append_assoc]
 exact List.Perm.append_left _ List.perm_append_comm
theorem nf {n:Nat} {ps:List (Nat × Value)} (h:Inv w0 X L S w)
  (hr:(aR wk n ps).run Tryz.prog w=.ok (.value (.slice (some ⟨w.heap.size,0,none⟩) n n)) { w with heap:=w.heap.push (.cells ((Dk ps).map Value.string).toArray gz) })
  (hn:(Dk ps).length=n) (hm:n<=1000) (hk:∀ v S1 w',Ext w0.heap.size X S S1->RdSl S1 1 pH v (Dk ps)->Inv w0 X L S1 w'->K v w'):Run Tryz.prog (aR wk n ps) w K:=by
 refine k0 (v:=fun b=>.slice (some ⟨b,0,none⟩) n n) (o:=.cells ((Dk ps).map Value.string).toArray gz) h hr fun b w' hI=>?_
 obtain ⟨S1,hI,hE,hS⟩:=hI.pub1
 refine hk _ S1 w' hE ?_ hI
 exact RdSl.ofCells hS hn (by simp only [maxLen]; omega) fun i hi=>Ej _ hi
theorem s0 {n:Nat} {ps:List (Nat × Value)} (h:Inv w0 X L S w)
  (hr:(aR lu n ps).run Tryz.prog w=.ok (.value (.slice (some ⟨w.heap.size,0,none⟩) n n)) { w with heap:=w.heap.push (.cells ((Ef ps).map (Value.int .i64)).toArray gN) })
  (hn:(Ef ps).length=n) (hm:n<=1000) (hk:∀ v S1 w',Ext w0.heap.size X S S1->RdSl S1 1 oH v (Ef ps)->Inv w0 X L S1 w'->K v w'):Run Tryz.prog (aR lu n ps) w K:=by
 refine k0 (v:=fun b=>.slice (some ⟨b,0,none⟩) n n) (o:=.cells ((Ef ps).map (Value.int .i64)).toArray gN) h hr fun b w' hI=>?_
 obtain ⟨S1,hI,hE,hS⟩:=hI.pub1
 refine hk _ S1 w' hE ?_ hI
 exact RdSl.ofCells hS hn (by simp only [maxLen]; omega) fun i hi=>Ej _ hi
def gW (Q:Prop) (R:Nat->Prop):Nat->Prop
 | 0=>Q
 | n+1=>R n
/- one value drawn by a call, put behind a row: the stages -/
def pP (w0:World) (X:List Nat) (b:Nat) (c:Array Value) (d:Nat) (E:TypeId) (kv:Value) (css:List (List Value)) (A:Nat->List Item) (Q:List Value->Nat->ax->Prop) (xv xs xa:Value) (w':World):Nat->Prop
 | 0=>∃ p1 S1 cs,Q cs p1 S1/\(cs.length=4/\∀ u∈cs,u.oneCell'=true)/\xv=.agg cs.toArray/\Inv w0 X (.blk b (.cells c E)::be kv ac 4 css::A p1) S1 w'
 | 1=>∃ p1 S1 cs b8,Q cs p1 S1/\(cs.length=4/\∀ u∈cs,u.oneCell'=true)/\xs=.slice (some ⟨b8,0,none⟩) 1 1/\Inv w0 X (.blk b (.cells c E)::be kv ac 4 css::(A p1++[.blk b8 (.cells cs.toArray ac)])) S1 w'
 | 2=>∃ p1 S1 cs,Q cs p1 S1/\(cs.length=4/\∀ u∈cs,u.oneCell'=true)/\Inv w0 X (.blk b (.cells c E)::be xa ac 4 (css++[cs])::A p1) S1 w'
 | 3=>∃ p1 S1 cs,Q cs p1 S1/\(cs.length=4/\∀ u∈cs,u.oneCell'=true)/\Inv w0 X (.blk b (.cells (c.setIfInBounds d xa) E)::be xa ac 4 (css++[cs])::A p1) S1 w'
 | _=>False
variable {b d:Nat} {c:Array Value} {E:TypeId} {kv:Value} {css:List (List Value)} {F:Nat->List Item} {Q:List Value->Nat->ax->Prop} {xv xs xa:Value}
theorem tx {n:Nat} (h:pP w0 X b c d E kv css F Q xv xs xa w n) (hn:n<3):w.cell? ⟨b,d,none⟩=c[d]?:=by
 rcases n with _|_|_|n
 ·obtain ⟨p1,S1,cs,_,_,_,hI⟩:=h
  exact hI.cellL (i:=0) rfl
 ·obtain ⟨p1,S1,cs,b8,_,_,_,hI⟩:=h
  exact hI.cellL (i:=0) rfl
 ·obtain ⟨p1,S1,cs,_,_,hI⟩:=h
  exact hI.cellL (i:=0) rfl
 ·omega
theorem ap1 {B:Prop} (h:gW B (pP w0 X b c d E kv css F Q xv xs xa w) 1) (hk:∀ u w',gW B (pP w0 X b c d E kv css F Q xv u xa w') 2->K u w'):Run Tryz.prog (aR oU 1 [(0,xv)]) w K:=by
 obtain ⟨p1,S1,cs,hQ,hl,rfl,hI⟩:=h
 refine dg hI bt (by simp [Value.cells,hl.1]) (by omega) (by omega) fun b8 w' hI=>?_
 exact hk _ _ ⟨p1,S1,cs,b8,hQ,hl,rfl,hI⟩
theorem ap2 {B:Prop} {ty:TypeId} {bs:List Bool} (h:gW B (pP w0 X b c d E kv css F Q xv xs xa w) 2) (hfit:css.length<=1000000) (hk:∀ u w',gW B (pP w0 X b c d E kv css F Q xv xs u w') 3->K u w'):Run Tryz.prog (aA .append #[oU,oU] ty bs [kv,xs]) w K:=by
 obtain ⟨p1,S1,cs,b8,hQ,hl,rfl,hI⟩:=h
 have hblk:(Item.blk b (.cells c E)::be kv ac 4 css::(F p1++[.blk b8 (.cells cs.toArray ac)]))[(F p1).length+1+1]?=some (.blk b8 (.cells cs.toArray ac)):=by
  rw [List.getElem?_cons_succ,List.getElem?_cons_succ,List.getElem?_append_right (Nat.le_refl _),Nat.sub_self]; rfl
 refine dU hI 1 cs bt (by omega) rfl (by rw [hl.1]) (m:=1) (o:=0) ?_ hl.2 (by omega) (by omega) fun v' w_ hI=>?_
 ·intro i u hi
  rw [hI.cellL hblk,Nat.zero_add]
  simpa using hi
 rw [el] at hI
 refine hk _ _ ⟨p1,S1,cs,hQ,hl,?_⟩
 exact hI.sub (((List.sublist_append_left _ _).cons_cons _).cons_cons _)
theorem ap3 {B:Prop} {ty:TypeId} (h:gW B (pP w0 X b c d E kv css F Q xv xs xa w) 3) (hd:d<c.size) {K:Value->World->Prop} (hk:∀ w',gW B (pP w0 X b c d E kv css F Q xv xs xa w') 4->K undef w'):Run Tryz.prog (sOp (.store oU (.const (.pointer (some ⟨b,d,none⟩))) (.const xa)) ty) w K:=by
 obtain ⟨p1,S1,cs,hQ,hl,hI⟩:=h
 obtain ⟨va,vn,vc,hv9⟩:=Inv.rowSlice hI 1 rfl
 refine dY hI 0 (n:=1) (by rw [hv9]; rfl) (by decide +kernel) rfl (by omega) (by rw [hv9]; simp [Value.cells,Value.oneCell']) fun w_ hI=>?_
 have hcl9:Value.cells xa=#[xa]:=by rw [hv9]; rfl
 have e:cu c d (Value.cells xa).toList=c.setIfInBounds d xa:=by
  rw [hcl9]
  apply Array.toList_inj.1
  simp only [cu,Array.toList_setIfInBounds]
  have hl:d<c.toList.length:=by simpa using hd
  rw [List.set_eq_take_append_cons_drop,if_pos hl]
  simp
 rw [e] at hI
 exact hk _ ⟨p1,S1,cs,hQ,hl,hI⟩
end
/- how much a drawn term weighs, and how far the reader has gone -/
abbrev dW (d:Nat):Nat:=6 * 3 ^ d
theorem DG (d:Nat):6<=dW d:=by
 have:0<3 ^ d:=Nat.pow_pos (by omega)
 simp only [dW]; omega
theorem Eu (d:Nat):dW (d+1)=3 * dW d:=by simp only [dW,Nat.pow_succ]; omega
abbrev Fp (br:Nat) (sl:Value) (p d:Nat):Value->List Item->ax->Prop:=fun v I' S'=>∃ p',p'+2<=p+dW d/\I'=[rdI br sl p']/\∃ cs t,v=.agg cs.toArray/\RdT S' cs t/\wT t+3<=dW d/\okU 26 t
end Go.Proofs.YtmnnpgdeecnfpaaGreat

/- spec.l1Draw, l1Some: a drawn term is readable and light. -/
namespace Go.Proofs.YtmnnpgdeecnfpaaGreat
open Go Go.RowKit
theorem nM {l:List Int} {n a b:Int} (hm:n∈l) (h:(l.all fun n=>decide (a<=n) && decide (n<=b))=true):a<=n/\n<=b:=by
 rw [List.all_eq_true] at h
 have:=h n hm
 rw [Bool.and_eq_true,decide_eq_true_eq,decide_eq_true_eq] at this
 exact this
theorem lW {l:List ByteArray} {s:ByteArray} {m:Nat} (hm:s∈l) (h:(l.all fun s=>decide (s.size<=m))=true):s.size<=m:=by
 rw [List.all_eq_true] at h
 have:=h s hm
 rwa [decide_eq_true_eq] at this
theorem Aq {Q B:Prop} {R:Nat->Prop} (h1:Q->B) (h2:∀ n,n<3->R n->B):∀ {n:Nat},gW Q R n->n<4->B
 | 0,h,_=>h1 h
 | n+1,h,hn=>h2 n (by omega) h
theorem g8:∀ l m:List T,wL (l++m)=wL l+wL m
 | [],m=>by simp [wL]
 | t::l,m=>by simp only [List.cons_append,wL,g8 l m]; omega
theorem ES {n:Int} (h:0<=n/\n<26):okU 26 (.mk 1 n emptyB []):=by
 simp only [okU,fC]
 exact ⟨by decide,fun _=>⟨h.1,h.2,trivial,trivial⟩,trivial,by decide⟩
theorem EV {n:Int}:okU 26 (.mk 2 n emptyB []):=by
 simp only [okU,fC]
 exact ⟨by decide,(fun h=>by cases h),trivial,by decide⟩
theorem nu {s:ByteArray} {ts:List T} (hs:s.size<=6) (h:fC 26 ts):okU 26 (.mk 3 0 s ts):=by
 simp only [okU]
 exact ⟨by decide,(fun h=>by cases h),h,hs⟩
theorem uz {N:Nat}:∀ {l m:List T},fC N l->fC N m->fC N (l++m)
 | [],_,_,h=>h
 | _::_,_,h,h'=>by
  rw [fC] at h
  rw [List.cons_append,fC]
  exact ⟨h.1,uz h.2 h'⟩
theorem pc {S:ax} {k n:Int} (hk:inI k) (hn:inI n):RdT S [.int .i64 k,.int .i64 n,.string ⟨#[]⟩,.slice none 0 0] (.mk k n emptyB []):=
 RdT.iff.2 ⟨_,rfl,hk,hn,Nat.zero_le _,j7 S⟩
section
variable {w0 w:World} {X:List Nat} {L:List Item} {S:ax} {K:Value->World->Prop} {P:Program}
attribute [local irreducible] Run CondV ah ba
theorem Run.callL {f:FuncId} {fn:Func} {args:List Value} {I:List Item} {Post:Value->List Item->ax->Prop}
  (hf:P.funcs[f]?=some fn) (hn:(fn.name == "runtime.NumGoroutine" || fn.body.isNone)=false) (h:Inv w0 X L S w) (hc:Tri P f args I S Post) (hL:L=L.dropLast++I)
  (hk:∀ v I' S' w',Post v I' S'->Ext w0.heap.size X S S'->Inv w0 X (L.dropLast++I') S' w'->K v w'):Run P (ay (.func (.func f) #[] #[]) args) w K:=
 Run.callE (A:=L.dropLast) hf hn (hL ▸ h) hc hk
theorem s7 {T:TypeId} {cx cy:Bool} {d:Nat} (hd:d<=1000000) (hk:K (.int .i64 (d:Int)) w):Run P (au .sub T cx cy (.int .i64 ((d+1:Nat):Int)) (.int .i64 1)) w K:=by
 refine pF (by omega) ?_
 rw [show ((d+1:Nat):Int) - 1=d by omega]
 exact hk
theorem um {B:Prop} {b d:Nat} {c:Array Value} {E:TypeId} {kv xs xa:Value} {css:List (List Value)} {F:Nat->List Item} {Q:List Value->Nat->ax->Prop} {p1:Nat} {S1:ax} {cs:List Value} {t:T}
  (hQ:Q cs p1 S1) (hr:RdT S1 cs t) (hI:Inv w0 X (.blk b (.cells c E)::be kv ac 4 css::F p1) S1 w):gW B (pP w0 X b c d E kv css F Q (.agg cs.toArray) xs xa w) 1:=
 ⟨p1,S1,cs,hQ,⟨hr.length,hr.one⟩,rfl,hI⟩
end
section
variable {br:Nat} {sl:Value} {ys:List Nat}
attribute [local irreducible] Run CondV ah ba
abbrev AH (br:Nat) (sl:Value) (ys:List Nat) (d:Nat):Prop:=∀ (p:Nat) (S:ax),RdSl S 1 jA sl ys->p+3 * dW d<=1000000000->Tri Tryz.prog AR [rdP br,.int .i64 (d:Int)] [rdI br sl p] S (Fp br sl p d)
theorem wn {d:Nat} (hd4:d<=4) (ih:∀ d',d'+1=d->AH br sl ys d'):AH br sl ys d:=by
 intro p S hrd hp w hI
 have hW:=DG d
 refine te ?_
 unfold qE
 refine bm hI bx fun b4 w' hI=>?_
 have hI:Inv w [br] [.blk b4 (.cells #[.int .i64 0,.int .i64 0,.string ⟨#[]⟩,.slice none 0 0] ac),rdI br sl p] S w':=hI.last 0 rfl
 refine ⟨fun v w'=>∃ (c:Bool) (p1:Nat),v=.bool c/\p1<=p+1/\(c=false->2<=d)/\Inv w [br] [.blk b4 (.cells #[.int .i64 0,.int .i64 0,.string ⟨#[]⟩,.slice none 0 0] ac),rdI br sl p1] S w',?_,?_⟩
 ·refine dh ?_
  by_cases hd:(d:Int)<2
  ·rw [decide_eq_true hd]
   repeat (first|refine ad ?_|refine ag (by decide) ?_|refine ae ?_|refine aq ?_|refine al ?_)
   exact ⟨true,p,rfl,by omega,(fun h=>by cases h),hI⟩
  ·rw [decide_eq_false hd]
   repeat (first|refine ad ?_|refine ag (by decide) ?_|refine ae ?_|refine aq ?_|refine al ?_)
   refine Run.callL ch ci hI (dz (n:=4) hrd (by omega) (by omega)) rfl fun v' I' S' w'=>?_
   rintro ⟨rfl,rfl,k,hk,rfl⟩ _ hI
   refine bK ?_
   repeat (first|refine ad ?_|refine ag (by decide) ?_|refine ae ?_|refine aq ?_|refine al ?_)
   exact ⟨_,p+1,rfl,by omega,fun _=>by omega,hI⟩
 intro t13 _ _ _ _ _ _ w'
 rintro ⟨c,p1,rfl,hp1,hcd,hI⟩
 refine bg (fun _=>?_) (fun hc=>?_)
 ·refine Run.callL ch ci hI (dz (n:=4) hrd (by omega) (by omega)) rfl fun v' I' S' w'=>?_
  rintro ⟨rfl,rfl,k,hk,rfl⟩ _ hI
  have hI:Inv w [br] [.blk b4 (.cells #[.int .i64 0,.int .i64 0,.string ⟨#[]⟩,.slice none 0 0] ac),rdI br sl (p1+1)] S' w':=hI
  refine bK ?_
  refine bz (fun _=>?_) (fun _=>?_)
  ·refine Run.callL ch ci hI (dz (n:=4) hrd (by omega) (by omega)) rfl fun v' I' S1 w'=>?_
   rintro ⟨rfl,rfl,k,hk,rfl⟩ _ hI
   refine Run.callPure tn uG hI (mv k S1) fun w' hI=>?_
   refine aX hI 0 rfl aj rfl rfl (by simp [Value.oneCell']) fun w' hI=>?_
   refine bA hI 0 aj rfl rfl ?_
   exact ⟨_,_,S1,rfl,hI.pick [false,true],Ext.refl _ _ _,p1+2,by omega,rfl,_,_,rfl,pc (by simp [inI]) (by simp only [inI]; omega),by have e:emptyB.size=0:=rfl; simp only [wT,wL,List.length_nil,e]; omega,ES (by omega)⟩
  refine bK ?_
  refine bz (fun _=>?_) (fun _=>?_)
  ·refine s0 hI (by kernel_rfl) rfl (by omega) fun v S1 w' hE1 hv hI=>?_
   refine Run.callL eR fb hI (jI (p:=p1+1) (hrd.monoU hE1.1) hv (by decide) (by omega)) rfl fun v' I' S2 w'=>?_
   rintro ⟨rfl,rfl,n,hn,rfl⟩ _ hI
   have hn:=nM (a:=-1000) (b:=1000) hn (by decide)
   refine Run.callPure mL mS hI (jh n S2) fun w' hI=>?_
   refine aX hI 0 rfl aj rfl rfl (by simp [Value.oneCell']) fun w' hI=>?_
   refine bA hI 0 aj rfl rfl ?_
   exact ⟨_,_,S2,rfl,hI.pick [false,true],hE1,p1+2,by omega,rfl,_,_,rfl,pc (by simp [inI]) (by simp only [inI]; omega),by have e:emptyB.size=0:=rfl; simp only [wT,wL,List.length_nil,e]; omega,EV⟩
  ·refine nf hI (by kernel_rfl) rfl (by omega) fun v S1 w' hE1 hv hI=>?_
   refine Run.callL eJ eH hI (jH (p:=p1+1) (hrd.monoU hE1.1) hv (by decide) (by omega)) rfl fun v' I' S2 w'=>?_
   rintro ⟨rfl,rfl,s,hs,rfl⟩ _ hI
   have hs:=lW (m:=3) hs (by decide)
   refine Run.call0E c9 db hI (dB s (by simp only [maxLen]; omega) (j7 S2) (by simp)) fun v' I' S3 w'=>?_
   rintro ⟨rfl,cs,rfl,hcs⟩ hE3 hI
   refine aX hI 0 rfl aj (by simpa using hcs.length) rfl (by simpa using hcs.one) fun w' hI=>?_
   refine bA hI 0 aj rfl (by simpa using hcs.length) ?_
   exact ⟨_,_,S3,rfl,hI.pick [false,true],hE1.trans hE3,p1+2,by omega,rfl,_,_,rfl,hcs,by simp only [wT,wL,List.length_nil]; omega,nu (by omega) (by simp only [fC])⟩
 obtain ⟨d',rfl⟩:∃ d',d=d'+1:=⟨d - 1,by have:=hcd hc; omega⟩
 have ih:=ih d' rfl
 have hD:=DG d'
 have hDs:=Eu d'
 have h3:dW d'<=486:=by
  have:3 ^ d'<=3 ^ 4:=Nat.pow_le_pow_right (by omega) (by omega)
  simp only [dW]; omega
 refine Run.callL ch ci hI (dz (n:=3) hrd (by omega) (by omega)) rfl fun v' I' S w'=>?_
 rintro ⟨rfl,rfl,k,hk,rfl⟩ _ hI
 refine bK ?_
 refine bz (fun _=>?_) (fun _=>?_)
 ·refine s7 (by omega) ?_
  refine Run.callL eU eZ hI (ih (p1+1) S hrd (by omega)) rfl fun v' I' S1 w'=>?_
  rintro ⟨p2,hp2,rfl,cs1,t1,rfl,hc1,hw1,ho1⟩ hE1 hI
  refine s7 (by omega) ?_
  refine Run.callL eU eZ hI (ih p2 S1 (hrd.monoU hE1.1) (by omega)) rfl fun v' I' S2 w'=>?_
  rintro ⟨p3,hp3,rfl,cs2,t2,rfl,hc2,hw2,ho2⟩ hE2 hI
  have hc1:=RdT.mono hE2.1 hc1
  obtain ⟨kv1,rfl,_,_,_,a1,q1,rfl,_⟩:=RdT.iff.1 hc1
  obtain ⟨kv2,rfl,_,_,_,a2,q2,rfl,_⟩:=RdT.iff.1 hc2
  refine k0 (v:=fun b=>.slice (some ⟨b,0,none⟩) 2 2) (o:=.cells #[.int .i64 t1.kind,.int .i64 t1.n,.string t1.name,.slice a1 t1.kids.length q1,.int .i64 t2.kind,.int .i64 t2.n,.string t2.name,.slice a2 t2.kids.length q2] ac) hI (by kernel_rfl) fun b w' hI=>?_
  have hI:Inv w [br] ([.blk b4 (.cells #[.int .i64 0,.int .i64 0,.string ⟨#[]⟩,.slice none 0 0] ac),rdI br sl p3]++[_]) S2 w':=hI
  obtain ⟨S3,hI,hE3,hS⟩:=hI.pub1
  refine Run.call0E c9 db hI (dB ⟨#[46]⟩ (by decide) (xX hS (hc1.mono hE3.1) (hc2.mono hE3.1)) (by simp)) fun v' I' S4 w'=>?_
  rintro ⟨rfl,cs,rfl,hcs⟩ hE4 hI
  refine aX hI 0 rfl aj (by simpa using hcs.length) rfl (by simpa using hcs.one) fun w' hI=>?_
  refine bA hI 0 aj rfl (by simpa using hcs.length) ?_
  refine ⟨_,_,S4,rfl,hI.pick [false,true],(hE1.trans hE2).trans (hE3.trans hE4),p3,by omega,rfl,_,_,rfl,hcs,?_,nu (by decide) (by simp only [fC]; exact ⟨ho1,ho2,trivial⟩)⟩
  have e:(ByteArray.mk #[46]).size=1:=rfl
  simp only [wT,wL,List.length_cons,List.length_nil,e]
  omega
 ·refine nf hI (by kernel_rfl) rfl (by omega) fun v S1 w' hE1 hv hI=>?_
  refine Run.callL eJ eH hI (jH (p:=p1+1) (hrd.monoU hE1.1) hv (by decide) (by omega)) rfl fun v' I' S2 w'=>?_
  rintro ⟨rfl,rfl,s,hs,rfl⟩ _ hI
  have hs:=lW (m:=3) hs (by decide)
  refine Run.call0E c9 db hI (no s (j7 S2) (by simp)) fun v' I' S3 w'=>?_
  rintro ⟨rfl,kv0,css0,rfl,rfl,hR0⟩ hE3 hI
  refine bm hI bx fun b5 w' hI=>?_
  obtain ⟨a0,n0,q0,rfl⟩:=hI.rowSlice 2 rfl
  refine aX hI 3 rfl aj rfl rfl (by simp [Value.oneCell']) fun w' hI=>?_
  obtain ⟨B4,hB4⟩:∃ B4,B4=Item.blk b4 (.cells #[.int .i64 0,.int .i64 0,.string ⟨#[]⟩,.slice none 0 0] ac):=⟨_,rfl⟩
  have hI:Inv w [br] [.blk b5 (.cells #[.int .i64 3,.int .i64 0,.string s,.slice a0 n0 q0] ac),be (.slice a0 n0 q0) ac 4 css0,B4,rdI br sl (p1+2)] S3 w':=by
   rw [hB4]
   exact ((hI.last 2 rfl).last 0 rfl).last 0 rfl
  refine s0 hI (by kernel_rfl) rfl (by omega) fun v S4 w' hE4 hv hI=>?_
  refine Run.callL eR fb hI (jI (p:=p1+2) (hrd.monoU ((hE1.trans hE3).trans hE4).1) hv (by decide) (by omega)) rfl fun v' I' S5 w'=>?_
  rintro ⟨rfl,rfl,n,hn,rfl⟩ _ hI
  have hn:=nM (a:=1) (b:=3) hn (by decide)
  have hE5:Ext w.heap.size [br] S S5:=(hE1.trans hE3).trans hE4
  refine ⟨fun t w'=>∃ (j p2:Nat) (S6:ax) (kv:Value) (css:List (List Value)) (ts:List T),fC 26 ts/\t=.int .i64 (j:Int)/\ts.length+j<=3/\Rows 4 (RdT S6) css ts/\wL ts+3 * ts.length<=ts.length * dW d'/\p2+2 * ts.length<=p1+3+ts.length * dW d'/\Ext w.heap.size [br] S S6/\
   Inv w [br] [.blk b5 (.cells #[.int .i64 3,.int .i64 0,.string s,kv] ac),be kv ac 4 css,B4,rdI br sl p2] S6 w',fun t _=>(intOf t).toNat,
   ⟨n.toNat,p1+3,S5,_,css0,[],by simp only [fC],by rw [Int.toNat_of_nonneg (by omega)],by simp; omega,hR0.monoR fun _ _ h=>RdT.mono hE4.1 h,by simp [wL],by simp,hE5,hI⟩,?_⟩
  intro t6 _ _ t63 t62 t61 t60 t59 t58 t57 t56 t55 _ _ w'
  rintro ⟨j,p2,S6,kv,css,ts,hou,rfl,hj,hR,hwts,hp2,hE6,hI⟩
  have hcl:=hR.hc
  have hm:ts.length * dW d'<=3 * dW d':=Nat.mul_le_mul_right _ (by omega)
  refine eN ?_
  refine bz (fun hj0=>?_) (fun hj0=>?_)
  ·obtain ⟨j',rfl⟩:∃ j',j=j'+1:=⟨j - 1,by omega⟩
   refine ⟨fun D cP cS cU cO cN cT cQ cR cV w_=>(D 0=true->cV=.pointer (some ⟨b5,3,none⟩))/\(D 1=true->cR=kv)/\(D 2=true->cQ=rdP br)/\(D 3=true->cT=.int .i64 ((d'+1:Nat):Int))/\(D 4=true->cN=.int .i64 (d':Int))/\(D 5=true->True)/\(D 6=true->True)/\(D 7=true->True)/\(D 8=true->cP=.pointer (some ⟨b5,3,none⟩))/\(D 9=true->True)/\∃ n_:Nat,n_<=4/\D 5=decide (1<=n_)/\D 6=decide (2<=n_)/\D 7=decide (3<=n_)/\D 9=decide (4<=n_)/\(D 9=true->D 1=true)/\(gW (Inv w [br] [.blk b5 (.cells #[.int .i64 3,.int .i64 0,.string s,kv] ac),be kv ac 4 css,B4,rdI br sl p2] S6 w_) (pP w [br] b5 #[.int .i64 3,.int .i64 0,.string s,kv] 3 ac kv css (fun p=>[B4,rdI br sl p]) (fun cs p' S'=>∃ t,okU 26 t/\RdT S' cs t/\wT t+3<=dW d'/\p'+2<=p2+dW d'/\Ext w.heap.size [br] S6 S') cO cU cS w_) n_),⟨af,af,af,af,af,af,af,af,af,af,⟨0,Nat.zero_le _,rfl,rfl,rfl,rfl,(af),hI.draw⟩⟩,⟨?_,?_,?_,?_,?_,?_,?_,?_,?_,?_,trivial⟩,?_⟩
   ·intro D a6  cP cS cU cO cN cT cQ cR cV w_
    rintro ⟨aF,aC,aB,aE,aD,aG,az,aK,aQ,aU,⟨n_,ln_,e1_,e2_,e3_,e4_,kp_,hS⟩⟩
    refine bh a9 ?_
    exact ⟨fun _=>rfl,aC,aB,aE,aD,aG,az,aK,aQ,aU,⟨n_,ln_,e1_,e2_,e3_,e4_,kp_,hS⟩⟩
   ·intro D a6 dc cP cS cU cO cN cT cQ cR cV w_
    rintro ⟨aF,aC,aB,aE,aD,aG,az,aK,aQ,aU,⟨n_,ln_,e1_,e2_,e3_,e4_,kp_,hS⟩⟩
    obtain rfl:=aF dc
    have ln2_:=C6 e4_ kp_ a6
    refine d4 aV ((Aq (fun h=>h.cellL (i:=0) rfl) (fun n hn h=>tx h hn) hS ln2_).trans rfl) ?_
    exact ⟨aF,fun _=>rfl,aB,aE,aD,aG,az,aK,aQ,aU,⟨n_,ln_,e1_,e2_,e3_,e4_,(fun _=>rfl),hS⟩⟩
   ·intro D a6  cP cS cU cO cN cT cQ cR cV w_
    rintro ⟨aF,aC,aB,aE,aD,aG,az,aK,aQ,aU,⟨n_,ln_,e1_,e2_,e3_,e4_,kp_,hS⟩⟩
    exact ⟨aF,aC,fun _=>rfl,aE,aD,aG,az,aK,aQ,aU,⟨n_,ln_,e1_,e2_,e3_,e4_,kp_,hS⟩⟩
   ·intro D a6  cP cS cU cO cN cT cQ cR cV w_
    rintro ⟨aF,aC,aB,aE,aD,aG,az,aK,aQ,aU,⟨n_,ln_,e1_,e2_,e3_,e4_,kp_,hS⟩⟩
    exact ⟨aF,aC,aB,fun _=>rfl,aD,aG,az,aK,aQ,aU,⟨n_,ln_,e1_,e2_,e3_,e4_,kp_,hS⟩⟩
   ·intro D a6 ef cP cS cU cO cN cT cQ cR cV w_
    rintro ⟨aF,aC,aB,aE,aD,aG,az,aK,aQ,aU,⟨n_,ln_,e1_,e2_,e3_,e4_,kp_,hS⟩⟩
    obtain rfl:=aE ef
    refine s7 (by omega) ?_
    exact ⟨aF,aC,aB,aE,fun _=>rfl,aG,az,aK,aQ,aU,⟨n_,ln_,e1_,e2_,e3_,e4_,kp_,hS⟩⟩
   ·intro D a6 dy ev cP cS cU cO cN cT cQ cR cV w_
    rintro ⟨aF,aC,aB,aE,aD,aG,az,aK,aQ,aU,⟨n_,ln_,e1_,e2_,e3_,e4_,kp_,hS⟩⟩
    obtain rfl:=aB dy
    obtain rfl:=aD ev
    obtain rfl:n_=0:=Dy e1_ a6
    refine Run.callL eU eZ (L:=[.blk b5 _,be _ ac 4 css,B4,rdI br sl p2]) hS (ih p2 S6 (hrd.monoU hE6.1) (by omega)) rfl fun v' I' S7 w_=>?_
    rintro ⟨p3,hp3,rfl,cs,t,rfl,hcs,hwt,hot⟩ hE7 hI
    exact ⟨aF,aC,aB,aE,aD,fun _=>by first|assumption|trivial,az,aK,aQ,aU,⟨1,by decide,rfl,(by first|exact e2_|rfl),(by first|exact e3_|rfl),(by first|exact e4_|rfl),kp_,um ⟨t,hot,hcs,hwt,hp3,hE7⟩ hcs hI⟩⟩
   ·intro D a6 eq cP cS cU cO cN cT cQ cR cV w_
    rintro ⟨aF,aC,aB,aE,aD,aG,az,aK,aQ,aU,⟨n_,ln_,e1_,e2_,e3_,e4_,kp_,hS⟩⟩
    have C3:=aG eq
    obtain rfl:n_=1:=je e1_ eq e2_ a6
    refine ap1 hS fun u w_ hS=>?_
    exact ⟨aF,aC,aB,aE,aD,aG,fun _=>by first|assumption|trivial,aK,aQ,aU,⟨2,by decide,(by first|exact e1_|rfl),rfl,(by first|exact e3_|rfl),(by first|exact e4_|rfl),kp_,hS⟩⟩
   ·intro D a6 eB eO Hn cP cS cU cO cN cT cQ cR cV w_
    rintro ⟨aF,aC,aB,aE,aD,aG,az,aK,aQ,aU,⟨n_,ln_,e1_,e2_,e3_,e4_,kp_,hS⟩⟩
    obtain rfl:=aC eB
    have C7:=az eO
    obtain rfl:n_=2:=je e2_ eO e3_ a6
    refine ap2 hS (by omega) fun u w_ hS=>?_
    exact ⟨aF,aC,aB,aE,aD,aG,az,fun _=>by first|assumption|trivial,aQ,aU,⟨3,by decide,(by first|exact e1_|rfl),(by first|exact e2_|rfl),rfl,(by first|exact e4_|rfl),kp_,hS⟩⟩
   ·intro D a6 dc gl mM sC sr uT vy wI cP cS cU cO cN cT cQ cR cV w_
    rintro ⟨aF,aC,aB,aE,aD,aG,az,aK,aQ,aU,⟨n_,ln_,e1_,e2_,e3_,e4_,kp_,hS⟩⟩
    refine bh a9 ?_
    exact ⟨aF,aC,aB,aE,aD,aG,az,aK,fun _=>rfl,aU,⟨n_,ln_,e1_,e2_,e3_,e4_,kp_,hS⟩⟩
   ·intro D a6 gp s8 lH rY gF sg r4 pf rW uR gt cP cS cU cO cN cT cQ cR cV w_
    rintro ⟨aF,aC,aB,aE,aD,aG,az,aK,aQ,aU,⟨n_,ln_,e1_,e2_,e3_,e4_,kp_,hS⟩⟩
    obtain rfl:=aQ gp
    have Eq:=aK s8
    obtain rfl:n_=3:=je e3_ s8 e4_ a6
    refine ap3 hS (by simp) fun w_ hS=>?_
    exact ⟨aF,aC,aB,aE,aD,aG,az,aK,aQ,fun _=>trivial,⟨4,by decide,(by first|exact e1_|rfl),(by first|exact e2_|rfl),(by first|exact e3_|rfl),rfl,(fun _=>gF),hS⟩⟩
   intro D kA iV ii gM gT hO iR im iT iS cP cS cU cO cN cT cQ cR cV w_
   rintro ⟨aF,aC,aB,aE,aD,aG,az,aK,aQ,aU,⟨n_,ln_,e1_,e2_,e3_,e4_,kp_,hS⟩⟩
   obtain rfl:n_=4:=DW ln_ e4_ kA
   clear e1_ e2_ e3_ e4_
   obtain ⟨p3,S7,cs,⟨t,hot,hcs,hwt,hp3,hE7⟩,hl,hI⟩:=hS
   refine s7 (by omega) ?_
   refine ⟨⟨j',p3,S7,_,_,ts++[t],uz hou (by simp only [fC]; exact ⟨hot,trivial⟩),rfl,by rw [List.length_append]; simp only [List.length_cons,List.length_nil]; omega,(hR.monoR fun _ _ h=>RdT.mono hE7.1 h).snoc hcs hl.1,?_,?_,hE6.trans hE7,hI⟩,by simp only [intOf,Int.toNat_natCast]; omega⟩
   ·rw [g8,List.length_append,List.length_cons,List.length_nil,Nat.add_mul]
    simp only [wL]
    omega
   ·rw [List.length_append,List.length_cons,List.length_nil,Nat.add_mul]
    omega
  ·have hI:Inv w [br] ([.blk b5 (.cells #[.int .i64 3,.int .i64 0,.string s,kv] ac),B4,rdI br sl p2]++[be kv ac 4 css]) S6 w':=hI.last 1 rfl
   refine bb hI 0 aj rfl rfl ?_
   obtain ⟨S7,hE7,hrdr,hI⟩:=Inv.lendExt hI
   have hrs:=RowRd.rows (hR.monoR fun _ _ h=>RdT.mono hE7.1 h) hrdr
   obtain ⟨a,q,rfl,_⟩:=id hrs
   subst hB4
   refine aX hI 1 rfl aj rfl rfl (by simp [Value.oneCell']) fun w' hI=>?_
   refine bA hI 1 aj rfl rfl ?_
   refine ⟨_,_,S7,rfl,hI.pick [false,false,true],hE6.trans hE7,p2,?_,rfl,[.int .i64 3,.int .i64 0,.string s,_],.mk 3 0 s ts,rfl,RdT.iff.2 ⟨_,rfl,by simp [inI,T.kind],by simp [inI,T.n],by simp only [T.name,maxLen]; omega,hrs⟩,?_,nu (by omega) hou⟩
   ·have:ts.length=0 ∨ ts.length=1 ∨ ts.length=2 ∨ ts.length=3:=by omega
    rcases this with h|h|h|h <;> rw [h] at hp2 hwts <;> omega
   ·simp only [wT]
    have:ts.length=0 ∨ ts.length=1 ∨ ts.length=2 ∨ ts.length=3:=by omega
    rcases this with h|h|h|h <;> rw [h] at hp2 hwts ⊢ <;> omega
theorem fD:∀ d:Nat,d<=4->AH br sl ys d
 | 0,h=>wn h fun d' e=>by omega
 | d+1,h=>wn h fun d' e=>by
  obtain rfl:d'=d:=by omega
  exact fD _ (by omega)
abbrev Eb (br:Nat) (sl:Value) (p k m:Nat):Value->List Item->ax->Prop:=fun v I' S'=>∃ p',p'<=p+k/\I'=[rdI br sl p']/\∃ cs t,v=.agg cs.toArray/\RdT S' cs t/\wT t<=m
theorem nO {p:Nat} {S:ax} (hrd:RdSl S 1 jA sl ys) (hp:p<=100000000):Tri Tryz.prog A0 [rdP br] [rdI br sl p] S (Eb br sl p 500 500):=by
 intro w hI
 refine tB ?_
 unfold qS
 refine bm hI bx fun b2 w' hI=>?_
 have hI:Inv w [br] [.blk b2 (.cells #[.int .i64 0,.int .i64 0,.string ⟨#[]⟩,.slice none 0 0] ac),rdI br sl p] S w':=hI.last 0 rfl
 refine s0 hI (by kernel_rfl) rfl (by omega) fun v S1 w' hE1 hv hI=>?_
 refine Run.callL eR fb hI (jI (p:=p) (hrd.monoU hE1.1) hv (by decide) (by omega)) rfl fun v' I' S2 w'=>?_
 rintro ⟨rfl,rfl,n,hn,rfl⟩ _ hI
 have hn:=nM (a:=1) (b:=4) hn (by decide)
 obtain ⟨m,rfl⟩:∃ m:Nat,n=m:=⟨n.toNat,by rw [Int.toNat_of_nonneg (by omega)]⟩
 have h3:dW m<=486:=by
  have:3 ^ m<=3 ^ 4:=Nat.pow_le_pow_right (by omega) (by omega)
  simp only [dW]; omega
 refine Run.callL eU eZ hI (fD m (by omega) (p+1) S2 (hrd.monoU hE1.1) (by omega)) rfl fun v' I' S3 w'=>?_
 rintro ⟨p1,hp1,rfl,cs,t,rfl,hcs,hw,_⟩ hE3 hI
 refine aX hI 0 rfl aj (by simpa using hcs.length) rfl (by simpa using hcs.one) fun w' hI=>?_
 refine bA hI 0 aj rfl (by simpa using hcs.length) ?_
 exact ⟨_,_,S3,rfl,hI.pick [false,true],hE1.trans hE3,p1,by omega,rfl,cs,t,rfl,hcs,by omega⟩
end
end Go.Proofs.YtmnnpgdeecnfpaaGreat

/- spec.l1Mutate. -/
namespace Go.Proofs.YtmnnpgdeecnfpaaGreat
open Go Go.RowKit
def rl (w:World) (b o:Nat):Nat:=match w.cell? ⟨b,o,none⟩ with
 | some (.slice _ n _)=>n
 | _=>0
theorem EP {Q Q2 B:Prop} {R:Nat->Prop} (h1:Q->B) (h3:Q2->B) (h2:∀ n,n<3->R n->B):∀ {n:Nat},gW Q (gW Q2 R) n->n<5->B
 | 0,h,_=>h1 h
 | 1,h,_=>h3 h
 | n+2,h,hn=>h2 n (by omega) h
theorem eM {Q:Prop} {R:Nat->Prop} {n:Nat} (h:R n):gW Q R (n+1):=h
theorem dd {Q:Prop} {R:Nat->Prop} {n:Nat} (h:gW Q R (n+1)):R n:=h
section
variable {w0 w:World} {X:List Nat} {L A:List Item} {S:ax} {K:Value->World->Prop} {P:Program}
attribute [local irreducible] Run CondV ah ba
theorem pu (h:Inv w0 X L S w) {i b o:Nat} {c:Array Value} {E:TypeId} {a:Option Addr} {n m:Nat} (hi:L[i]?=some (.blk b (.cells c E))) (hc:c[o]?=some (.slice a n m)):rl w b o=n:=by
 rw [rl,h.cellL hi,hc]
theorem pe {b:Nat} {k n:Int} {s:ByteArray} {kv:Value} {css:List (List Value)} {ks:List T} {o:Obj}
  (hI:Inv w0 X (.blk b o::be kv ac 4 css::A) S w) (hR:Rows 4 (RdT S) css ks) (hk:inI k) (hn:inI n) (hs:s.size<=maxLen) :
  ∃ S',Ext w0.heap.size X S S'/\Inv w0 X (.blk b o::A) S' w/\RdT S' [.int .i64 k,.int .i64 n,.string s,kv] (.mk k n s ks)/\RdSl S' 4 (RdT S') kv ks:=by
 have hI:Inv w0 X ((.blk b o::A)++[be kv ac 4 css]) S w:=hI.last 1 rfl
 obtain ⟨S',hE,hrd,hI⟩:=Inv.lendExt hI
 have hrs:=RowRd.rows (hR.monoR fun _ _ h=>RdT.mono hE.1 h) hrd
 exact ⟨S',hE,hI,RdT.iff.2 ⟨_,rfl,hk,hn,hs,hrs⟩,hrs⟩
end
section
variable {br:Nat} {sl:Value} {ys:List Nat}
attribute [local irreducible] Run CondV ah ba
theorem lr {p:Nat} {S:ax} {cs:List Value} {t:T} (hrd:RdSl S 1 jA sl ys) (h:RdT S cs t) (hw:wT t<=100000) (hp:p<=100000000) :
  Tri Tryz.prog xl [rdP br,.agg cs.toArray] [rdI br sl p] S (Eb br sl p 2 (wT t+100)):=by
 intro w hI
 have h0:=h
 obtain ⟨kv0,rfl,hk,hn,hs,hks⟩:=RdT.iff.1 h
 refine qh ?_
 unfold ms
 refine co hI fun b3 w' hI=>?_
 refine bm hI bx fun b4 w' hI=>?_
 refine bb hI 1 aj rfl rfl ?_
 refine Run.call0E eW eT hI (CP t S _ h0 (by omega)) fun v' I' S1 w'=>?_
 rintro ⟨kv,css,rfl,rfl,hR⟩ hE1 hI
 have hE1:Ext w.heap.size [br] S S1:=hE1
 obtain ⟨a0,n0,q0,rfl⟩:=hI.rowSlice 3 rfl
 refine bm hI bx fun b5 w' hI=>?_
 refine aX hI 4 rfl aj rfl rfl (by simp [Value.oneCell']) fun w' hI=>?_
 obtain ⟨B4,hB4⟩:∃ B4,B4=Item.blk b4 (.cells #[.int .i64 0,.int .i64 0,.string ⟨#[]⟩,.slice none 0 0] ac):=⟨_,rfl⟩
 obtain ⟨k,hk'⟩:∃ k,k=t.kind:=⟨_,rfl⟩
 obtain ⟨n,hn'⟩:∃ n,n=t.n:=⟨_,rfl⟩
 obtain ⟨s,hs'⟩:∃ s,s=t.name:=⟨_,rfl⟩
 have hwt:wT t=s.size+t.kids.length+wL t.kids:=by rw [hs']; cases t; rw [wT]; rfl
 rw [<- hk',<- hn',<- hs'] at hI
 rw [<- hk'] at hk
 rw [<- hn'] at hn
 rw [<- hs'] at hs
 have hI:Inv w [br] [.blk b5 (.cells #[.int .i64 k,.int .i64 n,.string s,.slice a0 n0 q0] ac),be (.slice a0 n0 q0) ac 4 css,B4,rdI br sl p] S1 w':=by
  rw [hB4]
  exact (((hI.pick [true,false,true,true,true]).last 2 rfl).last 1 rfl).last 0 rfl
 refine ⟨fun w'=>∃ (p1:Nat) (S2:ax) (cs1:List Value) (t1:T),p1<=p+2/\Ext w.heap.size [br] S S2/\RdT S2 cs1 t1/\wT t1<=wT t+100/\Inv w [br] [.blk b5 (.cells cs1.toArray ac),B4,rdI br sl p1] S2 w',?_,?_⟩
 ·have hfin:∀ {k n:Int} {s1:ByteArray} {p1:Nat} {w':World} {S1:ax} {css:List (List Value)} {kv:Value} {ks:List T},Ext w.heap.size [br] S S1->p1<=p+2->inI k->inI n->s1.size<=s.size+7->Rows 4 (RdT S1) css ks->ks.length<=t.kids.length+5->wL ks<=wL t.kids->
    Inv w [br] [.blk b5 (.cells #[.int .i64 k,.int .i64 n,.string s1,kv] ac),be kv ac 4 css,B4,rdI br sl p1] S1 w'->
    ∃ (p1:Nat) (S2:ax) (cs1:List Value) (t1:T),p1<=p+2/\Ext w.heap.size [br] S S2/\RdT S2 cs1 t1/\wT t1<=wT t+100/\Inv w [br] [.blk b5 (.cells cs1.toArray ac),B4,rdI br sl p1] S2 w':=by
   intro k n s1 p1 w' S1 css kv ks hE hp1 hk hn hs1 hR hkl hkw hI
   obtain ⟨S2,hE2,hI,hr,_⟩:=pe (s:=s1) hI hR hk hn (by simp only [maxLen]; omega)
   exact ⟨p1,S2,_,_,hp1,hE.trans hE2,hr,by rw [wT,hwt]; omega,hI⟩
  refine Run.callL ch ci hI (dz (n:=50) (hrd.monoU hE1.1) (by omega) (by omega)) rfl fun v' I' S1 w'=>?_
  rintro ⟨rfl,rfl,kk,hkk,rfl⟩ _ hI
  refine bK ?_
  refine bz (fun _=>?_) (fun _=>?_)
  ·refine s0 hI (by kernel_rfl) rfl (by omega) fun v S3 w' hE3 hv hI=>?_
   refine Run.callL eR fb hI (jI (p:=p+1) (hrd.monoU (hE1.trans hE3).1) hv (by decide) (by omega)) rfl fun v' I' S3 w'=>?_
   rintro ⟨rfl,rfl,m,hm,rfl⟩ _ hI
   have hm:=nM (a:=-1000) (b:=1000) hm (by decide)
   refine ff hI 0 rfl bF bw rfl rfl rfl fun w' hI=>?_
   exact hfin (hE1.trans hE3) (Nat.le_refl _) (by simp only [inI]; omega) hn (by omega) (hR.monoR fun _ _ h=>RdT.mono hE3.1 h) (by omega) (Nat.le_refl _) hI
  refine bK ?_
  refine bz (fun _=>?_) (fun _=>?_)
  ·refine s0 hI (by kernel_rfl) rfl (by omega) fun v S3 w' hE3 hv hI=>?_
   refine Run.callL eR fb hI (jI (p:=p+1) (hrd.monoU (hE1.trans hE3).1) hv (by decide) (by omega)) rfl fun v' I' S3 w'=>?_
   rintro ⟨rfl,rfl,m,hm,rfl⟩ _ hI
   have hm:=nM (a:=-1000) (b:=1000) hm (by decide)
   refine ff hI 0 rfl bE bw rfl rfl rfl fun w' hI=>?_
   exact hfin (hE1.trans hE3) (Nat.le_refl _) hk (by simp only [inI]; omega) (by omega) (hR.monoR fun _ _ h=>RdT.mono hE3.1 h) (by omega) (Nat.le_refl _) hI
  refine bK ?_
  refine bz (fun _=>?_) (fun _=>?_)
  ·refine nf hI (by kernel_rfl) rfl (by omega) fun v S3 w' hE3 hv hI=>?_
   refine Run.callL eJ eH hI (jH (p:=p+1) (hrd.monoU (hE1.trans hE3).1) hv (by decide) (by omega)) rfl fun v' I' S3 w'=>?_
   rintro ⟨rfl,rfl,m,hm,rfl⟩ _ hI
   have hm:=lW (m:=7) hm (by decide)
   refine ff hI 0 rfl bu bq rfl rfl rfl fun w' hI=>?_
   exact hfin (hE1.trans hE3) (Nat.le_refl _) hk hn (by omega) (hR.monoR fun _ _ h=>RdT.mono hE3.1 h) (by omega) (Nat.le_refl _) hI
  refine bK ?_
  refine bz (fun _=>?_) (fun _=>?_)
  ·refine ⟨fun w'=>∃ (S2:ax) (kv:Value) (css:List (List Value)) (ks:List T),Ext w.heap.size [br] S S2/\Rows 4 (RdT S2) css ks/\ks.length<=t.kids.length+5/\wL ks<=wL t.kids/\
     Inv w [br] [.blk b5 (.cells #[.int .i64 k,.int .i64 n,.string s,kv] ac),be kv ac 4 css,B4,rdI br sl (p+1)] S2 w',fun w'=>5 - rl w' b5 3,⟨S1,_,css,t.kids,hE1,hR,by omega,Nat.le_refl _,hI⟩,?_⟩
   intro t40 t39 t38 t37 t36 t35 _ _ _ _ w'
   rintro ⟨S2,kv,css,ks,hE2,hR,hkl,hkw,hI⟩
   obtain ⟨a1,n1,q1,rfl,hn1⟩:∃ a m c,kv=.slice a m c/\m=ks.length:=by
    obtain ⟨S',_,_,_,hr⟩:=pe hI hR hk hn hs
    obtain ⟨a,q,rfl,_⟩:=hr
    exact ⟨a,_,q,rfl,rfl⟩
   subst hn1
   have hl1:=pu hI (i:=0) (o:=3) rfl rfl
   have hcl:=hR.hc
   refine aH hI 0 rfl a9 aV rfl ?_
   refine iD aS ?_
   refine fO ?_
   refine bz (fun hle=>?_) (fun hle=>?_)
   ·have hI:=hI
    refine ⟨fun D ji fp gg fg dD dS w_=>(D 0=true->dS=.pointer (some ⟨b5,3,none⟩))/\(D 1=true->dD=.slice a1 ks.length q1)/\(D 2=true->True)/\(D 3=true->True)/\(D 4=true->True)/\(D 5=true->ji=.pointer (some ⟨b5,3,none⟩))/\(D 6=true->True)/\∃ n_:Nat,n_<=4/\D 2=decide (1<=n_)/\D 3=decide (2<=n_)/\D 4=decide (3<=n_)/\D 6=decide (4<=n_)/\(D 6=true->D 1=true)/\(gW (Inv w [br] [.blk b5 (.cells #[.int .i64 k,.int .i64 n,.string s,.slice a1 ks.length q1] ac),be (.slice a1 ks.length q1) ac 4 css,B4,rdI br sl (p+1)] S2 w_) (pP w [br] b5 #[.int .i64 k,.int .i64 n,.string s,.slice a1 ks.length q1] 3 ac (.slice a1 ks.length q1) css (fun p=>[B4,rdI br sl (p+1)]) (fun cs p' S'=>p'=p/\S'=S2/\RdT S2 cs (.mk 2 1 emptyB [])) fg gg fp w_) n_),⟨af,af,af,af,af,af,af,⟨0,Nat.zero_le _,rfl,rfl,rfl,rfl,(af),hI.draw⟩⟩,⟨?_,?_,?_,?_,?_,?_,?_,trivial⟩,?_⟩
    ·intro D a6  ji fp gg fg dD dS w_
     rintro ⟨aF,aC,aB,aE,aD,aG,az,⟨n_,ln_,e1_,e2_,e3_,e4_,kp_,hS⟩⟩
     refine bh a9 ?_
     exact ⟨fun _=>rfl,aC,aB,aE,aD,aG,az,⟨n_,ln_,e1_,e2_,e3_,e4_,kp_,hS⟩⟩
    ·intro D a6 dc ji fp gg fg dD dS w_
     rintro ⟨aF,aC,aB,aE,aD,aG,az,⟨n_,ln_,e1_,e2_,e3_,e4_,kp_,hS⟩⟩
     obtain rfl:=aF dc
     have ln2_:=C6 e4_ kp_ a6
     refine d4 aV ((Aq (fun h=>h.cellL (i:=0) rfl) (fun n hn h=>tx h hn) hS ln2_).trans rfl) ?_
     exact ⟨aF,fun _=>rfl,aB,aE,aD,aG,az,⟨n_,ln_,e1_,e2_,e3_,e4_,(fun _=>rfl),hS⟩⟩
    ·intro D a6  ji fp gg fg dD dS w_
     rintro ⟨aF,aC,aB,aE,aD,aG,az,⟨n_,ln_,e1_,e2_,e3_,e4_,kp_,hS⟩⟩
     obtain rfl:n_=0:=Dy e1_ a6
     refine Run.callPure mL mS (L:=[.blk b5 _,be _ ac 4 css,B4,rdI br sl (p+1)]) hS (jh 1 S2) fun w_ hI=>?_
     exact ⟨aF,aC,fun _=>by first|assumption|trivial,aE,aD,aG,az,⟨1,by decide,rfl,(by first|exact e2_|rfl),(by first|exact e3_|rfl),(by first|exact e4_|rfl),kp_,um ⟨rfl,rfl,pc (by simp [inI]) (by simp [inI])⟩ (pc (by simp [inI]) (by simp [inI])) hI⟩⟩
    ·intro D a6 dy ji fp gg fg dD dS w_
     rintro ⟨aF,aC,aB,aE,aD,aG,az,⟨n_,ln_,e1_,e2_,e3_,e4_,kp_,hS⟩⟩
     have Gs:=aB dy
     obtain rfl:n_=1:=je e1_ dy e2_ a6
     refine ap1 hS fun u w_ hS=>?_
     exact ⟨aF,aC,aB,fun _=>by first|assumption|trivial,aD,aG,az,⟨2,by decide,(by first|exact e1_|rfl),rfl,(by first|exact e3_|rfl),(by first|exact e4_|rfl),kp_,hS⟩⟩
    ·intro D a6 eB vN mM ji fp gg fg dD dS w_
     rintro ⟨aF,aC,aB,aE,aD,aG,az,⟨n_,ln_,e1_,e2_,e3_,e4_,kp_,hS⟩⟩
     obtain rfl:=aC eB
     have Hr:=aE vN
     obtain rfl:n_=2:=je e2_ vN e3_ a6
     refine ap2 hS (by omega) fun u w_ hS=>?_
     exact ⟨aF,aC,aB,aE,fun _=>by first|assumption|trivial,aG,az,⟨3,by decide,(by first|exact e1_|rfl),(by first|exact e2_|rfl),rfl,(by first|exact e4_|rfl),kp_,hS⟩⟩
    ·intro D a6 dc gl mM sC sr ji fp gg fg dD dS w_
     rintro ⟨aF,aC,aB,aE,aD,aG,az,⟨n_,ln_,e1_,e2_,e3_,e4_,kp_,hS⟩⟩
     refine bh a9 ?_
     exact ⟨aF,aC,aB,aE,aD,fun _=>rfl,az,⟨n_,ln_,e1_,e2_,e3_,e4_,kp_,hS⟩⟩
    ·intro D a6 eq ev Cz rY gF sg r4 pf ji fp gg fg dD dS w_
     rintro ⟨aF,aC,aB,aE,aD,aG,az,⟨n_,ln_,e1_,e2_,e3_,e4_,kp_,hS⟩⟩
     obtain rfl:=aG eq
     have Dn:=aD ev
     obtain rfl:n_=3:=je e3_ ev e4_ a6
     refine ap3 hS (by simp) fun w_ hS=>?_
     exact ⟨aF,aC,aB,aE,aD,aG,fun _=>trivial,⟨4,by decide,(by first|exact e1_|rfl),(by first|exact e2_|rfl),(by first|exact e3_|rfl),rfl,(fun _=>gF),hS⟩⟩
    intro D gM gT hO iR im iT iS ji fp gg fg dD dS w_
    rintro ⟨aF,aC,aB,aE,aD,aG,az,⟨n_,ln_,e1_,e2_,e3_,e4_,kp_,hS⟩⟩
    obtain rfl:n_=4:=DW ln_ e4_ gM
    clear e1_ e2_ e3_ e4_
    obtain ⟨p3,S7,cs,⟨rfl,rfl,hcs⟩,hl,hI⟩:=hS
    have hR2:=hR.snoc hcs hl.1
    refine ⟨⟨S7,_,_,_,hE2,hR2,by rw [List.length_append]; simp only [List.length_cons,List.length_nil]; omega,by rw [g8]; have e:emptyB.size=0:=rfl; simp only [wL,wT,List.length_nil,e]; omega,hI⟩,?_⟩
    obtain ⟨S',_,_,_,hr⟩:=pe hI hR2 hk hn hs
    obtain ⟨a,q,e,_⟩:=hr
    have hl2:=pu hI (i:=0) (o:=3) (a:=a) (n:=(ks++[T.mk 2 1 emptyB []]).length) (m:=q) rfl (by rw [<- e]; rfl)
    show 5 - rl w_ b5 3<5 - rl w' b5 3
    rw [hl1,hl2,List.length_append,List.length_cons,List.length_nil]
    omega
   ·exact hfin hE2 (by omega) hk hn (by omega) hR hkl hkw hI
  refine bK ?_
  refine bz (fun _=>?_) (fun _=>?_)
  ·obtain ⟨S2,hE2,hI,hr,_⟩:=pe hI hR hk hn hs
   have hI:Inv w [br] [.blk b5 (.cells #[.int .i64 k,.int .i64 n,.string s,.slice a0 n0 q0] ac),B4,rdI br sl (p+1)] S2 w':=hI
   have ht:T.mk k n s t.kids=t:=by rw [hk',hn',hs']; cases t; rfl
   rw [ht] at hr
   refine ⟨fun t6 w'=>∃ (j:Nat) (S3:ax) (cs1:List Value) (t1:T),t6=.int .i64 (j:Int)/\j<=30/\Ext w.heap.size [br] S S3/\RdT S3 cs1 t1/\wT t1<=wT t+2 * j/\Inv w [br] [.blk b5 (.cells cs1.toArray ac),B4,rdI br sl (p+1)] S3 w',fun t6 _=>30 - (intOf t6).toNat,
    ⟨0,S2,_,t,rfl,by omega,hE1.trans hE2,hr,by omega,hI⟩,?_⟩
   intro t6 _ _ _ _ _ _ _ w'
   rintro ⟨j,S3,cs1,t1,rfl,hj,hE3,hr,hw1,hI⟩
   refine dh ?_
   refine bz (fun hj'=>?_) (fun hj'=>?_)
   ·refine bb hI 0 aj rfl (by simpa using hr.length) ?_
    refine dg hI bt (by simp [Value.cells,hr.length]) (by omega) (by omega) fun b8 w' hI=>?_
    obtain ⟨S4,hI,hE4,hS⟩:=hI.pub1
    refine Run.call0E c9 db hI (dB ⟨#[115]⟩ (by decide) (Eh hS (hr.mono hE4.1)) (by simp)) fun v' I' S5 w'=>?_
    rintro ⟨rfl,cs2,rfl,hcs2⟩ hE5 hI
    have hI:Inv w [br] [.blk b5 (.cells cs1.toArray ac),B4,rdI br sl (p+1)] S5 w':=by simpa using hI
    refine aX hI 0 rfl aj (by simpa using hcs2.length) (by simpa using hr.length) (by simpa using hcs2.one) fun w' hI=>?_
    refine ct (by omega) ?_
    have e:(ByteArray.mk #[115]).size=1:=rfl
    exact ⟨⟨j+1,S5,cs2,_,rfl,by omega,hE3.trans (hE4.trans hE5),hcs2,by simp only [wT,wL,List.length_cons,List.length_nil,e]; omega,hI⟩,by simp only [intOf,Int.toNat_natCast]; omega⟩
   ·exact ⟨p+1,S3,cs1,t1,by omega,hE3,hr,by omega,hI⟩
  ·exact hfin hE1 (by omega) hk hn (by omega) hR (by omega) (Nat.le_refl _) hI
 intro _ _ _ _ _ _ _ _ _ _ _ _ _ _ _ _ _ _ _ _ _ _ _ _ _ _ _ _ _ _ _ _ _ _ _ _ _ _ _ _ _ _ w'
 rintro ⟨p1,S2,cs1,t1,hp1,hE2,hr,hw1,hI⟩
 subst hB4
 refine bb hI 0 aj rfl (by simpa using hr.length) ?_
 refine aX hI 1 rfl aj (by simpa using hr.length) rfl (by simpa using hr.one) fun w' hI=>?_
 refine bA hI 1 aj rfl (by simpa using hr.length) ?_
 exact ⟨_,_,S2,rfl,hI.pick [false,false,true],hE2,p1,hp1,rfl,cs1,t1,rfl,hr,hw1⟩
end
end Go.Proofs.YtmnnpgdeecnfpaaGreat
