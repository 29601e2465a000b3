/- MovePred: both sides. -/
import Derived.Test.YtcpgagfdeflbkaaGreatDoorZMv5
import Derived.Test.YtcpgagfdeflbkaaGreatDoorZMv15
import Derived.Test.YtcpgagfdeflbkaaGreatDoorZMv26
import Derived.Test.YtcpgagfdeflbkaaGreatDoorZMv3
namespace Go.Proofs.YtcpgagfdeflbkaaGreatDoor
section
open Go Go.RowKit
attribute [local irreducible] Run CondV ao aI

def isP (x:Pd) (c:C):Bool:=mN (dF c.head) x
def dr (p:List C) (x:Pd):List C:=(p.filter fun c=>!isP x c)++p.filter (isP x)
def eh (p:List C) (x:Pd):List C:=if cS p=true then dr p x else []
theorem qY (p:List C) (x:Pd):(dr p x).length+wP (dr p x)=p.length+wP p:=by
 have:=Bh (isP x) p
 rw [dr,AV,List.length_append]
 omega
theorem AO {S:ad} {css:List (List Value)} {ys:List C} (h:Rows 5 (RdC S) css ys):∀ cs∈css,∀ u∈cs,u.oneCell'=true:=by
 intro cs hc
 obtain ⟨i,hi,rfl⟩:=List.mem_iff_getElem.1 hc
 exact (h.hR i (by rw [<- h.hc]; exact hi) hi).one
theorem tV {p:List C} {S:ad} {v:Value} (x:Pd) (h:RdSl S 5 (RdC S) v p) (hw:p.length+wP p<=1048576):Tri Tryz.prog Dv [v,.agg x.cells.toArray] [] S (GX S (eh p x) (cS p)):=by
 intro w hI
 have hmw:=qY p x
 obtain ⟨xs,xn⟩:=x
 refine pG.2 ?_
 dsimp only[pG,aR]
 refine bl hI fun b3 w' hI=>?_
 refine Run.callPure rN rX hI (nU h (by omega)) fun w' hI=>?_
 refine bU ?_
 cases hv:cS p
 ·refine av (fun _=>?_) (fun hb=>by cases hb)
  refine di hI bD fun v0 w' hI=>?_
  rw [eh,hv,if_neg (by decide)]
  have hI:Inv w [] ([.blk b3 (.cells #[.string xs,.int .i64 xn] aS)]++(aB v0 af 5 []::aZ ([]:List aN).flatten)) S w':=hI
  obtain ⟨L,hT,hI⟩:=Inv.rowTree (R:=TrC) hI (Grown.nil 5 TrC)
  exact ⟨_,_,_,rfl,hI.sub (List.sublist_append_right _ _),Ext.refl _ _ _,rfl,_,L,rfl,rfl,hT⟩
 refine av (fun hb=>by cases hb) (fun _=>?_)
 rw [eh,hv,if_pos rfl]
 refine di hI bD fun v1 w' hI=>?_
 refine di hI bD fun v2 w' hI=>?_
 refine ⟨fun i t u w'=>∃ (k:Nat) (c1 c2:List (List Value)) (l1 l2:List C),k<=p.length/\i=.int .i64 k/\Rows 5 (RdC S) c1 l1/\Rows 5 (RdC S) c2 l2/\
   l1++(p.drop k).filter (fun c=>!isP ⟨xs,xn⟩ c)=p.filter (fun c=>!isP ⟨xs,xn⟩ c)/\l2++(p.drop k).filter (isP ⟨xs,xn⟩)=p.filter (isP ⟨xs,xn⟩)/\
   Inv w [] [.blk b3 (.cells #[.string xs,.int .i64 xn] aS),aB t af 5 c1,aB u af 5 c2] S w',fun i _ _ _=>p.length - (intOf i).toNat,⟨0,[],[],[],[],Nat.zero_le _,rfl,Rows.nil _ _,Rows.nil _ _,rfl,rfl,hI⟩,?_⟩
 intro t8 _ _ t6 _ _ _ _ _ _ _ t7 _ _ _ _ _ _ _ _ _ _ _ _ _ _ _ _ _ _ _ w'
 rintro ⟨k,c1,c2,l1,l2,hk,rfl,hR1,hR2,hr1,hr2,hI⟩
 have hl1:l1.length<=p.length:=by
  have h1:=congrArg List.length hr1
  have h2:=List.length_filter_le (fun c=>!isP ⟨xs,xn⟩ c) p
  simp only [List.length_append] at h1
  omega
 have hl2:l2.length<=p.length:=by
  have h1:=congrArg List.length hr2
  have h2:=List.length_filter_le (isP ⟨xs,xn⟩) p
  simp only [List.length_append] at h1
  omega
 have hcl1:=hR1.hc
 have hcl2:=hR2.hc
 refine aD h aY ?_
 refine bC ?_
 refine aH (fun hki=>?_) (fun hki=>?_)
 ·have hk':k<p.length:=by omega
  rw [<- ja _ p k hk' l1] at hr1
  rw [<- ja _ p k hk' l2] at hr2
  refine ⟨fun t u w'=>∃ c1' c2',Rows 5 (RdC S) c1' (if (!isP ⟨xs,xn⟩ p[k])=true then l1++[p[k]] else l1)/\Rows 5 (RdC S) c2' (if isP ⟨xs,xn⟩ p[k]=true then l2++[p[k]] else l2)/\
    Inv w [] [.blk b3 (.cells #[.string xs,.int .i64 xn] aS),aB t af 5 c1',aB u af 5 c2'] S w',?_,?_⟩
  ·have h0:=h
   obtain ⟨b,o,cap,c,E,fz,rfl,hS,hR⟩:=h.at_ hk'
   obtain ⟨hd,ks2,hcs,h1,h2⟩:=hR
   obtain ⟨kv,rfl,_,_,hs1,hk1⟩:=RdT.iff.1 h1
   refine ⟨fun D iC vG mu eH mw s3 rD pe w_=>Fx D 0 [pe=.slice (some ⟨b,o,none⟩) p.length cap,rD=.int .i64 k,s3=.pointer (some ⟨b,o+k * 5,none⟩),mw=.pointer (some ⟨b,o+k * 5,none⟩),eH=.agg #[.int .i64 p[k].head.kind,.int .i64 p[k].head.n,.string p[k].head.name,kv],mu=.agg #[.string p[k].head.name,.int .i64 p[k].head.kids.length],vG=.agg #[.string xs,.int .i64 xn],iC=.bool (isP ⟨xs,xn⟩ p[k])]/\Inv w [] [.blk b3 (.cells #[.string xs,.int .i64 xn] aS),aB t6 af 5 c1,aB t7 af 5 c2] S w_,⟨Fx.nil _ _,hI.draw⟩,⟨?_,?_,?_,?_,?_,?_,?_,?_,trivial⟩,?_⟩
   all_goals (intro D bv; intros; rename_i iC vG mu eH mw s3 rD pe w_ hA_; have hF_:=hA_.1; obtain ⟨⟨ci,cd,cj,cc,cm,cr,bO,cR,_⟩,hI⟩:=hA_)
   ·exact ⟨hF_.set 0 rfl,hI⟩
   ·exact ⟨hF_.set 1 rfl,hI⟩
   ·obtain rfl:=ci ‹_›
    obtain rfl:=cd ‹_›
    refine aE aY hk' ?_
    exact ⟨hF_.set 2 rfl,hI⟩
   ·obtain rfl:=cj ‹_›
    refine aA bF ?_
    exact ⟨hF_.set 3 rfl,hI⟩
   ·obtain rfl:=cc ‹_›
    refine bK (cs:=[.int .i64 p[k].head.kind,.int .i64 p[k].head.n,.string p[k].head.name,kv]) ac rfl (fun j v hj=>by rw [hI.cellS hS]; exact aJ hcs j v (by match j,hj with|0,hj=>exact hj|1,hj=>exact hj|2,hj=>exact hj|3,hj=>exact hj|j+4,hj=>simp at hj)) ?_
    exact ⟨hF_.set 4 rfl,hI⟩
   ·obtain rfl:=cm ‹_›
    refine Run.callPure ze wX hI (pU h1) fun w_ hI=>?_
    exact ⟨hF_.set 5 rfl,hI⟩
   ·refine aw hI 0 bZ rfl rfl ?_
    exact ⟨hF_.set 6 rfl,hI⟩
   ·obtain rfl:=cr ‹_›
    obtain rfl:=bO ‹_›
    refine Di ?_
    exact ⟨hF_.set 7 rfl,hI⟩
   obtain ⟨rfl,rfl,rfl,rfl,rfl,rfl,rfl,rfl,_⟩:=hF_.all
   clear hF_ ci cd cj cc cm cr bO cR
   refine av (fun hb=>?_) (fun hb=>?_)
   ·refine bM hI h0 aY aO hk' (fun _ _=>RdC.length) fun cs hcs=>?_
    refine bP hI 2 cs bD (by omega) (by omega) rfl hcs.length hcs.one (by omega) (by omega) fun v' w' hI=>?_
    refine ⟨c1,c2++[cs],?_,?_,hI⟩
    ·rw [if_neg (by rw [hb]; decide)]; exact hR1
    ·rw [if_pos hb]; exact hR2.snoc hcs hcs.length
   ·refine bM hI h0 aY aO hk' (fun _ _=>RdC.length) fun cs hcs=>?_
    refine bP hI 1 cs bD (by omega) (by omega) rfl hcs.length hcs.one (by omega) (by omega) fun v' w' hI=>?_
    refine ⟨c1++[cs],c2,?_,?_,hI⟩
    ·rw [if_pos (by rw [hb]; rfl)]; exact hR1.snoc hcs hcs.length
    ·rw [if_neg (by rw [hb]; decide)]; exact hR2
  ·intro t _ _ _ _ _ _ _ u _ _ _ _ _ _ _ _ _ _ _ _ _ _ _ w'
   rintro ⟨c1',c2',hR1,hR2,hI⟩
   refine bi (by omega) ?_
   exact ⟨⟨k+1,c1',c2',_,_,hk',rfl,hR1,hR2,hr1,hr2,hI⟩,by simp [intOf]; omega⟩
 ·have:k=p.length:=by omega
  subst this
  rw [List.drop_length,List.filter_nil,List.append_nil] at hr1 hr2
  refine uS hI 1 2 bD (by omega) rfl rfl hR2.hk (AO hR2) (by omega) (by omega) fun v' w' hI=>?_
  have hI:Inv w [] ([]++[aB v' af 5 (c1++c2)]) S w':=hI.pick [false,true,false]
  obtain ⟨S1,hle,hrd,hI,_⟩:=hI.lend
  have hR:=hR1.append hR2
  rw [hr1,hr2] at hR
  have hrr:RdSl S1 5 (RdC S1) v' (dr p ⟨xs,xn⟩):=(RowRd.rows hR hrd).mono (Sle.refl _) fun _ _ h=>h.mono hle
  refine Run.call0 Dk Cf hI (z7 hrr (by omega)) fun v3 I' S' w'=>?_
  rintro ⟨rfl,L,rfl,hT⟩ _ hI
  exact ⟨_,_,_,rfl,hI.less hle,Ext.refl _ _ _,rfl,_,L,rfl,rfl,hT⟩
theorem tm {p:List C} {S:ad} {v:Value} (x:Pd) (h:RdSl S 5 (RdC S) v p) (hw:p.length+wP p<=1048576):Tri Tryz.prog CW [v,.agg x.cells.toArray] [] S (GX S (eh p x) (cS p)):=by
 intro w hI
 have hmw:=qY p x
 obtain ⟨xs,xn⟩:=x
 refine pR.2 ?_
 dsimp only[pR,aR]
 refine bl hI fun b3 w' hI=>?_
 refine Run.callPure jh jE hI (gU h) fun w' hI=>?_
 refine bU ?_
 cases hv:cS p
 ·refine av (fun _=>?_) (fun hb=>by cases hb)
  rw [eh,hv,if_neg (by decide)]
  exact ⟨_,_,_,rfl,hI.nil,Ext.refl _ _ _,rfl,_,[],rfl,rfl,TrSl.nil (by simp [maxLen])⟩
 refine av (fun hb=>by cases hb) (fun _=>?_)
 rw [eh,hv,if_pos rfl]
 refine aD h aY ?_
 refine ⟨fun i t u w'=>∃ (k:Nat) (c1 c2:List (List Value)) (l1 l2:List C),k<=p.length/\i=.int .i64 k/\Rows 5 (RdC S) c1 l1/\Rows 5 (RdC S) c2 l2/\
   l1++(p.drop k).filter (fun c=>!isP ⟨xs,xn⟩ c)=p.filter (fun c=>!isP ⟨xs,xn⟩ c)/\l2++(p.drop k).filter (isP ⟨xs,xn⟩)=p.filter (isP ⟨xs,xn⟩)/\
   Inv w [] [.blk b3 (.cells #[.string xs,.int .i64 xn] aS),aB t af 5 c1,aB u af 5 c2] S w',fun i _ _ _=>p.length - (intOf i).toNat,⟨0,[],[],[],[],Nat.zero_le _,rfl,Rows.nil _ _,Rows.nil _ _,rfl,rfl,(hI.rowNil af 5).rowNil af 5⟩,?_⟩
 intro t15 _ t6 _ _ _ _ t7 _ _ _ _ _ _ _ _ _ _ _ _ _ w'
 rintro ⟨k,c1,c2,l1,l2,hk,rfl,hR1,hR2,hr1,hr2,hI⟩
 have hl1:l1.length<=p.length:=by
  have h1:=congrArg List.length hr1
  have h2:=List.length_filter_le (fun c=>!isP ⟨xs,xn⟩ c) p
  simp only [List.length_append] at h1
  omega
 have hl2:l2.length<=p.length:=by
  have h1:=congrArg List.length hr2
  have h2:=List.length_filter_le (isP ⟨xs,xn⟩) p
  simp only [List.length_append] at h1
  omega
 have hcl1:=hR1.hc
 have hcl2:=hR2.hc
 refine bC ?_
 refine aH (fun hki=>?_) (fun hki=>?_)
 ·have hk':k<p.length:=by omega
  rw [<- ja _ p k hk' l1] at hr1
  rw [<- ja _ p k hk' l2] at hr2
  refine ⟨fun t u w'=>∃ c1' c2',Rows 5 (RdC S) c1' (if (!isP ⟨xs,xn⟩ p[k])=true then l1++[p[k]] else l1)/\Rows 5 (RdC S) c2' (if isP ⟨xs,xn⟩ p[k]=true then l2++[p[k]] else l2)/\
    Inv w [] [.blk b3 (.cells #[.string xs,.int .i64 xn] aS),aB t af 5 c1',aB u af 5 c2'] S w',?_,?_⟩
  ·refine bM hI h aY aO hk' (fun _ _=>RdC.length) fun cs hcs=>?_
   have hcs0:=hcs
   obtain ⟨hd,ks,rfl,h1,h2⟩:=hcs
   have h1':=h1
   obtain ⟨kv,rfl,_,_,hs,hks⟩:=RdT.iff.1 h1
   have hc0:RdC S [.int .i64 p[k].head.kind,.int .i64 p[k].head.n,.string p[k].head.name,kv,ks] p[k]:=hcs0
   refine aL hI cP fun b9 w' hI=>?_
   refine au hI 3 rfl aO rfl rfl hc0.one fun w' hI=>?_
   have hI:Inv w [] [.blk b3 (.cells #[.string xs,.int .i64 xn] aS),aB t6 af 5 c1,aB t7 af 5 c2,.blk b9 (.cells #[.int .i64 p[k].head.kind,.int .i64 p[k].head.n,.string p[k].head.name,kv,ks] af)] S w':=hI
   refine ⟨fun D s3 rD pe mQ od w_=>Fx D 0 [od=.pointer (some ⟨b9,0,none⟩),mQ=.agg #[.int .i64 p[k].head.kind,.int .i64 p[k].head.n,.string p[k].head.name,kv],pe=.agg #[.string p[k].head.name,.int .i64 p[k].head.kids.length],rD=.agg #[.string xs,.int .i64 xn],s3=.bool (isP ⟨xs,xn⟩ p[k])]/\Inv w [] [.blk b3 (.cells #[.string xs,.int .i64 xn] aS),aB t6 af 5 c1,aB t7 af 5 c2,.blk b9 (.cells #[.int .i64 p[k].head.kind,.int .i64 p[k].head.n,.string p[k].head.name,kv,ks] af)] S w_,⟨Fx.nil _ _,hI.draw⟩,⟨?_,?_,?_,?_,?_,trivial⟩,?_⟩
   all_goals (intro D bv; intros; rename_i s3 rD pe mQ od w_ hA_; have hF_:=hA_.1; obtain ⟨⟨ci,cd,cj,cc,cm,_⟩,hI⟩:=hA_)
   ·refine aA bF ?_
    exact ⟨hF_.set 0 rfl,hI⟩
   ·obtain rfl:=ci ‹_›
    refine dw hI 3 [.int .i64 p[k].head.kind,.int .i64 p[k].head.n,.string p[k].head.name,kv] ac rfl rfl FJ ?_
    exact ⟨hF_.set 1 rfl,hI⟩
   ·obtain rfl:=cd ‹_›
    refine Run.callPure ug uv hI (lq h1') fun w_ hI=>?_
    exact ⟨hF_.set 2 rfl,hI⟩
   ·refine aw hI 0 bZ rfl rfl ?_
    exact ⟨hF_.set 3 rfl,hI⟩
   ·obtain rfl:=cj ‹_›
    obtain rfl:=cc ‹_›
    refine Di ?_
    exact ⟨hF_.set 4 rfl,hI⟩
   obtain ⟨rfl,rfl,rfl,rfl,rfl,_⟩:=hF_.all
   clear hF_ ci cd cj cc cm
   refine av (fun hb=>?_) (fun hb=>?_)
   ·refine aw hI 3 aO rfl rfl ?_
    refine bP hI 2 [.int .i64 p[k].head.kind,.int .i64 p[k].head.n,.string p[k].head.name,kv,ks] bD (by omega) (by omega) rfl rfl hc0.one (by omega) (by omega) fun v' w' hI=>?_
    refine ⟨c1,c2++[_],?_,?_,hI.pick [true,true,true,false]⟩
    ·rw [if_neg (by rw [hb]; decide)]; exact hR1
    ·rw [if_pos hb]; exact hR2.snoc hc0 rfl
   ·refine aw hI 3 aO rfl rfl ?_
    refine bP hI 1 [.int .i64 p[k].head.kind,.int .i64 p[k].head.n,.string p[k].head.name,kv,ks] bD (by omega) (by omega) rfl rfl hc0.one (by omega) (by omega) fun v' w' hI=>?_
    refine ⟨c1++[_],c2,?_,?_,hI.pick [true,true,true,false]⟩
    ·rw [if_pos (by rw [hb]; rfl)]; exact hR1.snoc hc0 rfl
    ·rw [if_neg (by rw [hb]; decide)]; exact hR2
  ·intro t _ _ _ _ u _ _ _ _ _ _ _ _ _ _ _ _ w'
   rintro ⟨c1',c2',hR1,hR2,hI⟩
   refine bi (by omega) ?_
   exact ⟨⟨k+1,c1',c2',_,_,hk',rfl,hR1,hR2,hr1,hr2,hI⟩,by simp [intOf]; omega⟩
 ·have:k=p.length:=by omega
  subst this
  rw [List.drop_length,List.filter_nil,List.append_nil] at hr1 hr2
  refine uS hI 1 2 bD (by omega) rfl rfl hR2.hk (AO hR2) (by omega) (by omega) fun v' w' hI=>?_
  have hI:Inv w [] ([]++[aB v' af 5 (c1++c2)]) S w':=hI.pick [false,true,false]
  obtain ⟨S1,hle,hrd,hI,_⟩:=hI.lend
  have hR:=hR1.append hR2
  rw [hr1,hr2] at hR
  have hrr:RdSl S1 5 (RdC S1) v' (dr p ⟨xs,xn⟩):=(RowRd.rows hR hrd).mono (Sle.refl _) fun _ _ h=>h.mono hle
  refine Run.call0 vW wb hI (uo hrr (by omega)) fun v3 I' S' w'=>?_
  rintro ⟨rfl,L,rfl,hT⟩ _ hI
  exact ⟨_,_,_,rfl,hI.less hle,Ext.refl _ _ _,rfl,_,L,rfl,rfl,hT⟩
end
section
open Go Go.RowKit
attribute [local irreducible] Run CondV ao aI
end
section
open Go Go.RowKit

theorem D7 {l:List Pd} {x:Pd}:DW l x=true↔x∈l:=by
 simp [DW,rG]
theorem Kx {l:List Pd} {x y:Pd}:y∈sc l x↔y∈l ∨ y=x:=by
 unfold sc
 split
 ·rename_i h
  rw [D7] at h
  exact ⟨.inl,fun h'=>h'.elim id fun e=>e ▸ h⟩
 ·simp
theorem Ma {l:List Pd} {x:Pd} (h:l.Nodup):(sc l x).Nodup:=by
 unfold sc
 split
 ·exact h
 ·rename_i hx
  rw [D7] at hx
  rw [List.nodup_append]
  refine ⟨h,by simp,fun a ha b hb e=>?_⟩
  simp at hb
  subst hb
  subst e
  exact hx ha
theorem jL:∀ (p:List C) (l:List Pd) (y:Pd),y∈ce l p↔y∈l ∨ ∃ c∈p,dF c.head=y
 | [],l,y=>by simp [ce]
 | c::p,l,y=>by
  have e:ce l (c::p)=ce (sc l (dF c.head)) p:=rfl
  rw [e,jL p,Kx]
  constructor
  ·rintro ((h1|h1)|⟨u,h1,h2⟩)
   ·exact .inl h1
   ·exact .inr ⟨c,List.mem_cons_self ..,h1.symm⟩
   ·exact .inr ⟨u,List.mem_cons_of_mem _ h1,h2⟩
  ·rintro (h1|⟨u,h1,h2⟩)
   ·exact .inl (.inl h1)
   ·rcases List.mem_cons.1 h1 with rfl|h1
    ·exact .inl (.inr h2.symm)
    ·exact .inr ⟨u,h1,h2⟩
theorem lI:∀ (p:List C) (l:List Pd),l.Nodup->(ce l p).Nodup
 | [],l,h=>h
 | c::p,l,h=>by
  have e:ce l (c::p)=ce (sc l (dF c.head)) p:=rfl
  rw [e]
  exact lI p _ (Ma h)
theorem xN {α:Type} [DecidableEq α]:∀ {l m:List α},l.Nodup->(∀ x∈l,x∈m)->l.length<=m.length
 | [],_,_,_=>Nat.zero_le _
 | x::l,m,h,hs=>by
  rw [List.nodup_cons] at h
  have hx:=hs x (List.mem_cons_self ..)
  have h1:=xN (l:=l) (m:=m.erase x) h.2 fun y hy=>by
   have hne:y≠x:=fun e=>h.1 (e ▸ hy)
   exact (List.mem_erase_of_ne hne).2 (hs y (List.mem_cons_of_mem _ hy))
  rw [List.length_erase_of_mem hx] at h1
  have:0<m.length:=List.length_pos_of_mem hx
  rw [List.length_cons]
  omega

inductive Star (p:List C) (x:Pd):Pd->Prop
 | refl:Star p x x
 | step {y z:Pd}:Star p x y->z∈JR p y->Star p x z
theorem Star.trans {p:List C} {x y z:Pd} (h:Star p x y) (h':Star p y z):Star p x z:=by
 induction h' with
 | refl=>exact h
 | step _ hz ih=>exact .step ih hz
theorem C7 (p:List C) (x:Pd):dr (dr p x) x=dr p x:=by
 simp only [dr,List.filter_append,List.filter_filter]
 have h1:(p.filter fun a=>(!isP x a) && isP x a)=[]:=by
  rw [List.filter_eq_nil_iff]; intro c _; cases isP x c <;> simp
 have h2:(p.filter fun a=>isP x a && !isP x a)=[]:=by
  rw [List.filter_eq_nil_iff]; intro c _; cases isP x c <;> simp
 simp only [Bool.and_self,h1,h2,List.append_nil,List.nil_append]
theorem xX {p:List C} {x:Pd} {c:C}:c∈dr p x↔c∈p:=by
 simp only [dr,List.mem_append,List.mem_filter]
 cases isP x c <;> simp
theorem wU (p:List C) (x:Pd):(dr p x).length=p.length:=by
 have:=qY p x
 simp only [dr,List.length_append]
 induction p with
 | nil=>rfl
 | cons c p ih=>
  have ih:=ih (qY p x)
  rw [List.filter_cons,List.filter_cons]
  cases isP x c <;> simp <;> omega
theorem FI {p:List C} (h:cS p=true) (x:Pd):cS (dr p x)=true:=by
 rw [cS,Bool.and_eq_true,List.all_eq_true,decide_eq_true_eq] at h ⊢
 exact ⟨by rw [wU]; exact h.1,fun c hc=>h.2 c (xX.1 hc)⟩
theorem Dj {p:List C} (h:cS p=true) (x:Pd):eh (eh p x) x=eh p x/\cS (eh p x)=true/\(wI (eh p x)).length=(wI p).length:=by
 have h2:=FI h x
 have e:eh p x=dr p x:=if_pos h
 refine ⟨by rw [e,eh,if_pos h2,C7],by rw [e]; exact h2,?_⟩
 rw [e,wI,wI,if_pos h,if_pos h2]
 have hm:∀ y,y∈ce [] (dr p x)↔y∈ce [] p:=fun y=>by
  rw [jL,jL]
  simp only [xX]
 exact Nat.le_antisymm (xN (lI _ _ List.nodup_nil) fun y hy=>(hm y).1 hy) (xN (lI _ _ List.nodup_nil) fun y hy=>(hm y).2 hy)
end
section
open Go Go.RowKit
theorem wK {x y:Pd}:mN x y=true↔x=y:=by rw [rG,decide_eq_true_eq]
theorem AB (f:C->Bool) (P:List C):∀ (p pre:List C),P=pre++p->(fu f p pre.length).map (fun i=>P[i.toNat]?)=(p.filter f).map some
 | [],pre,_=>by simp [fu]
 | c::p,pre,h=>by
  have ih:=AB f P p (pre++[c]) (by rw [h]; simp)
  rw [List.length_append,List.length_cons,List.length_nil] at ih
  have hc:P[pre.length]?=some c:=by rw [h]; simp
  rw [fu]
  split
  ·rename_i hf
   rw [List.filter_cons_of_pos hf,List.map_cons,List.map_cons,Int.toNat_natCast,hc,ih]
  ·rename_i hf
   rw [List.filter_cons_of_neg hf,ih]
theorem En (p:List C) (t:T):cls p (fX p t)=(p.filter fun c=>mN (dF c.head) (dF t)).map some:=AB _ p p [] rfl
theorem IV {p:List C} {t:T} {i:Int} (hi:i∈fX p t) {cl:C} (hcl:p[i.toNat]?=some cl):cl∈p/\dF cl.head=dF t:=by
 obtain ⟨j,_,hj,hlt,hf⟩:=yl _ p 0 i hi
 have:i.toNat=j:=by omega
 rw [this,List.getElem?_eq_getElem hlt] at hcl
 cases hcl
 exact ⟨List.getElem_mem hlt,wK.1 hf⟩
theorem yZ {t:T} (h:dM t=true):t.kind=3:=of_decide_eq_true (IU h)
theorem Jj {p:List C} (h:cS p=true) {cl:C} (hc:cl∈p) {b:T} (hb:b∈cl.body):dM b=true:=by
 rw [cS,Bool.and_eq_true,List.all_eq_true] at h
 have:=h.2 cl hc
 rw [bH,Bool.and_eq_true,Bool.and_eq_true,List.all_eq_true] at this
 exact this.2.1 b hb
theorem IL {p s:List C} {R:T->Prop} {q:List T} (h:∀ t∈q,R t):KT p s R (gc q) (gc q):=
 ⟨rfl,rfl,⟨rfl,fun i hi=>by simp [gc] at hi⟩,rfl,fun g hg=>by
  obtain ⟨t,ht,rfl⟩:=List.mem_map.1 hg
  exact h t ht⟩
theorem SolR.sim {p s:List C} {R:T->Prop} {q:List T} {most fuel:Nat} {r:List (List T) × Int} (hA:Alk p s R) (hp:cS p=true) (hs:cS s=true) (hq:cY q=true) (hR:∀ t∈q,R t) (h:SolR p q most fuel r):SolR s q most fuel r:=by
 rcases h with ⟨_,h⟩|⟨h,_⟩
 ·exact .inl ⟨by rw [hs,hq]; rfl,h.sim hA (lC hp).1 (lC hs).1 _ (IL hR) (re hq _) (re hq _)⟩
 ·rw [hp,hq] at h
  cases h
theorem SolR.bad {p s:List C} {q:List T} {most fuel:Nat} {r:List (List T) × Int} (hp:cS p=true) (hs:cS s=true) (hq:cY q=false) (h:SolR p q most fuel r):SolR s q most fuel r:=by
 rcases h with ⟨h,_⟩|⟨_,h⟩
 ·rw [hp,hq] at h
  cases h
 ·exact .inr ⟨by rw [hs,hq]; rfl,h⟩
theorem Ci (p:List C) (x:Pd) (f:C->Bool) (h:(∀ c,f c=true->isP x c=true) ∨ (∀ c,f c=true->isP x c=false)):(dr p x).filter f=p.filter f:=by
 unfold dr
 rw [List.filter_append,List.filter_filter,List.filter_filter]
 rcases h with h|h
 ·have e1:p.filter (fun c=>f c && !isP x c)=[]:=List.filter_eq_nil_iff.2 fun c _ hc=>by
   rw [Bool.and_eq_true] at hc
   rw [h c hc.1] at hc
   exact absurd hc.2 (by decide)
  have e2:p.filter (fun c=>f c && isP x c)=p.filter f:=List.filter_congr fun c _=>by
   cases hc:f c with
   | false=>rfl
   | true=>rw [h c hc]; rfl
  rw [e1,e2]
  rfl
 ·have e1:p.filter (fun c=>f c && !isP x c)=p.filter f:=List.filter_congr fun c _=>by
   cases hc:f c with
   | false=>rfl
   | true=>rw [h c hc]; rfl
  have e2:p.filter (fun c=>f c && isP x c)=[]:=List.filter_eq_nil_iff.2 fun c _ hc=>by
   rw [Bool.and_eq_true] at hc
   rw [h c hc.1] at hc
   exact absurd hc.2 (by decide)
  rw [e1,e2,List.append_nil]
theorem Jo {p:List C} (hp:cS p=true) (x:Pd):Alk p (dr p x) fun t=>t.kind=3:=by
 refine ⟨fun t _ _ _=>?_,fun t _ i hi cl hcl b hb=>yZ (Jj hp (IV hi hcl).1 hb),fun t u h hs=>by rw [hs.1]; exact h,fun t h=>h⟩
 rw [En,En,Ci]
 ·by_cases h:dF t=x
  ·left
   intro c hc
   unfold isP
   rw [wK] at hc ⊢
   rw [hc,h]
  ·right
   intro c hc
   rw [wK] at hc
   cases hx:isP x c with
   | false=>rfl
   | true=>
    unfold isP at hx
    rw [wK] at hx
    exact absurd (hc.symm.trans hx) h
theorem SolR.moved {p:List C} {q:List T} {most fuel:Nat} {r:List (List T) × Int} (hp:cS p=true) (x:Pd) (h:SolR p q most fuel r):SolR (eh p x) q most fuel r:=by
 have h2:=(Dj hp x).2.1
 have e:eh p x=dr p x:=if_pos hp
 rw [e] at h2 ⊢
 cases hq:cY q with
 | false=>exact h.bad hp h2 hq
 | true=>
  refine h.sim (Jo hp x) hp h2 hq fun t ht=>?_
  rw [cY,Bool.and_eq_true,List.all_eq_true] at hq
  exact yZ (hq.2 t ht)
end
section
open Go Go.RowKit
section
variable {w:World} {K:Value->World->Prop}
attribute [local irreducible] Run
theorem HB {sb:Nat} {p1 p2:Option Addr} {n1 n2 m1 m2:Nat} {fuel:Int} {b:Bool}
  (hk:K (.agg #[.pointer (some ⟨sb,0,none⟩),.slice p1 n1 m1,.slice p2 n2 m2,.bool b,.bool false,.int .i64 fuel,.int .i64 0,.int .i64 26,.pointer none,.slice none 0 0,.slice none 0 0,.int .i64 0]) w) :
  Run Tryz.prog (bJ kP [(0,.pointer (some ⟨sb,0,none⟩)),(1,.slice p1 n1 m1),(2,.slice p2 n2 m2),(5,.int .i64 fuel),(3,.bool b),(7,.int .i64 26)]) w K:=by
 refine Run.of (v:=.agg #[.pointer (some ⟨sb,0,none⟩),.slice p1 n1 m1,.slice p2 n2 m2,.bool b,.bool false,.int .i64 fuel,.int .i64 0,.int .i64 26,.pointer none,.slice none 0 0,.slice none 0 0,.int .i64 0]) (w':=w) ?_ hk
 unfold bJ
 rw [Sem.run_bind,run_build w kP _ #[.pointer (some ⟨sb,0,none⟩),.slice p1 n1 m1,.slice p2 n2 m2,.bool b,.bool false,.int .i64 fuel,.int .i64 0,.int .i64 26,.pointer none,.slice none 0 0,.slice none 0 0,.int .i64 0] (by kernel_rfl),Result.andThen_ok]
 rfl
end
section
attribute [local irreducible] Run CondV ao aI
theorem Inv.rowLeM {w0 w:World} {X:List Nat} {L:List Item} {S:ad} (h:Inv w0 X L S w) {i k n:Nat} {e:TypeId} {v:Value} {xs:List Value} (hi:L[i]?=some (.row v e k n xs)):n<=maxLen:=by
 have hm:w.ownsRow 0 e k v n xs:=h.its (.row v e k n xs) (List.mem_of_getElem? hi)
 rcases hm.2 with ⟨rfl,hn⟩|⟨g,cap,cur,rfl,_,_,hn,hc,_⟩
 ·rw [hn]; exact Nat.zero_le _
 ·exact Nat.le_trans hn hc
theorem wi {p:List C} {q:List T} {S:ad} {pv qv:Value} (h4:RdSl S 5 (RdC S) pv p) (hq:RdSl S 4 (RdT S) qv q) (fuel:Int) :
  Tri Tryz.prog zK [pv,qv,.int .i64 fuel,.bool false] [] S fun x I' S'=>∃ sp sb mb gv,x=.pointer (some ⟨sp,0,none⟩)/\GL S' gv (gc q).goals/\
   I'=m7 sp sb mb pv qv false fuel 0 26 gv (.slice none 0 0) [] (.slice none 0 0) [] 0 #[] 0 (.slice none 0 0) []:=by
 intro w hI
 obtain ⟨pa,pcap,rfl,-⟩:=id h4
 obtain ⟨qa,qcap,rfl,-⟩:=id hq
 refine nH.2 ?_
 dsimp only[nH,gX]
 refine Run.call0 z6 zP hI (yT S) fun v' I' S' w'=>?_
 rintro ⟨rfl,sb,mb,rfl,rfl⟩ _ hI
 refine HB ?_
 refine bl hI fun sp w' hI=>?_
 refine Run.call0E FR Ev hI (Aw (cut:=0) (up:=-1) hq GL.nil) fun v' I' S1 w'=>?_
 rintro ⟨rfl,hG⟩ hE1 hI
 have hI:=hI.sub (List.sublist_append_left _ _)
 obtain ⟨gp,rfl⟩:=hG.ptr
 refine al ?_
 refine cq hI 3 rfl eN cE rfl rfl rfl fun w' hI=>?_
 have hI:=(hI.rowNil cO 9).rowNil hH 6
 have hI:Inv w [] (aq sb mb #[] 0 (.slice none 0 0) []++[dL sp (cJ sb (.slice pa p.length pcap) (.slice qa q.length qcap) false fuel 0 26 (.pointer gp) (.slice none 0 0) (.slice none 0 0) 0),chI (.slice none 0 0) [],noI (.slice none 0 0) []]) S1 w':=hI
 refine ⟨_,_,S1,rfl,hI.perm (List.perm_append_comm (l₂:=aq sb mb #[] 0 (.slice none 0 0) [])),hE1,sp,sb,mb,.pointer gp,rfl,?_,rfl⟩
 rw [List.append_nil] at hG
 exact hG
theorem ya {p:List C} {q:List T} {S:ad} {pv qv:Value} (h4:RdSl S 5 (RdC S) pv p) (hq:RdSl S 4 (RdT S) qv q) {most fuel:Nat} (hm:most<=20) (hf:fuel<=300) :
  Pure Tryz.prog BF [pv,qv,.int .i64 (most:Int),.int .i64 (fuel:Int)] S (.bool (cS p && cY q)):=by
 intro w hI
 refine pF.2 ?_
 dsimp only[pF,gX]
 refine Run.callPure jh jE hI (gU h4) fun w' hI=>?_
 have e1:(decide ((0:Int)<=(most:Int)) && decide ((most:Int)<=20))=true:=by simp; omega
 have e2:(decide ((0:Int)<=(fuel:Int)) && decide ((fuel:Int)<=300))=true:=by simp; omega
 cases hp:cS p
 ·refine rpG ?_
  exact done hI rfl
 ·refine rpG ?_
  refine Run.callPure wc wd hI (s0 hq) fun w' hI=>?_
  cases hqv:cY q
  ·refine rpG ?_
   exact done hI rfl
  ·refine rpG ?_
   refine Run.callPure ek eD hI (dX _ _ _ S) fun w' hI=>?_
   rw [e1]
   refine rpG ?_
   refine Run.callPure ek eD hI (dX _ _ _ S) fun w' hI=>?_
   rw [e2]
   refine rpG ?_
   exact done hI rfl
set_option maxHeartbeats 2000000 in
theorem Eg {p:List C} {q:List T} {S:ad} {pv qv:Value} (h4:RdSl S 5 (RdC S) pv p) (hq:RdSl S 4 (RdT S) qv q) {most fuel:Nat} (hm:most<=20) (hf:fuel<=300) {r:List (List T) × Int} (hr:SolR p q most fuel r) :
  Tri Tryz.prog IE [pv,qv,.int .i64 (most:Int),.int .i64 (fuel:Int),.bool false] [] S fun x I' S'=>I'=[]/\∃ v,x=.tuple #[v,.int .i64 r.2]/\RdSl S' 1 (RdAns S') v r.1:=by
 intro w hI
 refine xE.2 ?_
 dsimp only[xE,Bq]
 refine Run.callPure zQ zR hI (ya h4 hq hm hf) fun w' hI=>?_
 refine bU ?_
 rcases hr with ⟨hb,hr⟩|⟨hb,rfl⟩
 ·rw [hb]
  refine av (fun h=>by cases h) (fun _=>?_)
  have hb':=hb
  rw [Bool.and_eq_true] at hb'
  obtain ⟨f1,f2,f3⟩:=lC hb'.1
  obtain ⟨g1,g2,g3⟩:=yN hb'.2
  refine Run.call0E yH y0 hI (wi h4 hq fuel) fun v' I' S1 w'=>?_
  rintro ⟨sp,sb,mb,gv,rfl,hG,rfl⟩ hE1 hI
  have hso:=re hb'.2 p.length
  have hsl:(gc q).st.length=26:=by show (List.replicate 26 (none:Option T)).length=26; simp
  have hK:SeaK S1 (gc q).chs (gc q).nodes (gc q).st [] [] #[] [] []:=by
   refine ⟨KnownM.none S1 26,Rows.nil _ _,Rows.nil _ _,.nil,?_⟩
   show ([]:List Int).length+unb (List.replicate 26 none)<=(List.replicate 26 (none:Option T)).length
   rw [yJ]
   simp
  have hmul:26 * p.length * (fuel+1)<=520 * 301:=Nat.mul_le_mul (by omega) (by omega)
  have hRK:NE p fuel (gc q):=by
   refine ⟨hso,by omega,?_,?_,?_⟩
   ·rw [hsl]
    show 26+26 * 0+_<=_
    omega
   ·show 0+fuel<=_
    omega
   ·show 0+fuel<=_
    omega
  refine Run.callE (A:=[]) wu wg hI (by
   have:=JB f1 f2 (by omega) (by omega) hr hRK g1 g2 (by omega) (fuel:=fuel) (used:=0) (Int.le_refl _) (by omega) (by omega) (h4.monoC hE1.1) (hq.monoT hE1.1) hG hK (sp:=sp) (sb:=sb) (mb:=mb) (ck:=0) (mo:=0) (cv:=.slice none 0 0) (nv:=.slice none 0 0) (tv:=.slice none 0 0)
   rw [hsl] at this
   exact this) fun v' I' S2 w'=>?_
  rintro ⟨v,css,rfl,rfl,hR⟩ hE2 hI
  have hsm:=hr.small f1 g1 g2 hso (by omega) (by simp)
  refine ai rfl ?_
  refine ai rfl ?_
  refine gt hI 0 rfl dv ?_
  have hcl:=hR.hc
  have hE12:=hE1.trans hE2
  have hI:Inv w [] [aB v cV 1 css] S2 w':=hI
  refine ⟨fun i w'=>∃ (k:Nat) (css':List (List Value)) (S3:ad),k<=css.length/\i=.int .i64 (k:Int)/\css'.length=css.length/\Ext w.heap.size [] S2 S3/\Rows 1 (RdAns S3) css' r.1/\Inv w [] [.row v cV 1 css.length css'.flatten] S3 w',
   fun i _=>css.length - (intOf i).toNat,⟨0,css,S2,Nat.zero_le _,rfl,rfl,Ext.refl _ _ _,hR,hI⟩,?_⟩
  clear hI
  intro ii _ _ _ _ _ _ _ _ _ _ _ _ _ _ w'
  rintro ⟨k,css',S3,hk,rfl,hll,hE3,hR3,hI⟩
  refine bC ?_
  refine aH (fun hki=>?_) (fun hki=>?_)
  ·have hk':k<css'.length:=by omega
   have hkr:k<r.1.length:=by omega
   have hle:=hI.rowLeM (i:=0) rfl
   simp only [maxLen] at hle
   rw [<- hll] at hI
   obtain ⟨u,hu,hus⟩:=hR3.hR k hkr hk'
   obtain ⟨g,cap,hv,hcell⟩:=hI.rowPtr (i:=0) rfl hk' hR3.hk
   subst hv
   obtain ⟨ua,ucap,rfl,-⟩:=id hus
   have hans:=hsm _ (List.getElem_mem hkr)
   refine aE dv hk' ?_
   refine bK (cs:=[.slice ua r.1[k].length ucap]) lK rfl (fun j x hj=>by
    rw [Nat.zero_add]
    exact hcell j x (by rw [hu]; exact hj)) ?_
   refine aL hI HN fun b15 w' hI=>?_
   refine au hI 1 rfl lK rfl rfl (by simp [Value.oneCell']) fun w' hI=>?_
   refine ae hI 1 rfl g8 aj rfl ?_
   have hI:Inv w [] [aB (.slice (some ⟨g,0,none⟩) css'.length cap) cV 1 css'] S3 _:=hI.sub (List.sublist_append_left [_] [_])
   refine Run.call0E lW lo hI (pA hus hans) fun v' I' S5 w'=>?_
   rintro ⟨rfl,M,rfl,hT⟩ hE5 hI5
   obtain ⟨S9,hI9,hE9,hins⟩:=Inv.pubExt hI5
   have hn:=hT.rd hins fun _ _ _ hi h=>h.rd hi
   obtain ⟨na,ncap,rfl,-⟩:=id hn
   refine aE dv hk' ?_
   refine aA g8 ?_
   refine y5 hI9 0 (j:=k) (f:=0) rfl aj hk' (by omega) (by omega) hR3.hk rfl rfl fun w' hI=>?_
   have hE59:=hE5.trans hE9
   refine bi (by omega) ?_
   refine ⟨⟨k+1,css'.set k (css'[k].set 0 (.slice na r.1[k].length ncap)),S9,by omega,rfl,by rw [List.length_set,hll],hE3.trans hE59,?_,?_⟩,by simp only [intOf,Int.toNat_natCast]; omega⟩
   ·have h9:=(hR3.monoR fun _ _=>RdAns.mono hE59.1).set k (cs:=css'[k].set 0 (.slice na r.1[k].length ncap)) (y:=r.1[k]) ⟨_,by rw [hu]; rfl,hn⟩ (by rw [hu]; rfl)
    rwa [List.set_getElem_self] at h9
   ·have hI:Inv w [] [aB (.slice (some ⟨g,0,none⟩) css'.length cap) cV 1 (css'.set k (css'[k].set 0 (.slice na r.1[k].length ncap)))] S9 _:=hI
    rw [aB,List.length_set] at hI
    rw [<- hll]
    exact hI
  ·rw [<- hll] at hI
   have hI:Inv w [] ([]++[aB v cV 1 css']) S3 _:=hI
   obtain ⟨S4,hE4,hrd,hI⟩:=hI.lendExt
   exact ⟨_,_,S4,rfl,hI,(hE12.trans hE3).trans hE4,rfl,v,rfl,RowRd.rows (hR3.monoR fun _ _=>RdAns.mono hE4.1) hrd⟩
 ·rw [hb]
  refine av (fun _=>?_) (fun h=>by cases h)
  exact ⟨_,_,S,rfl,hI,Ext.refl _ _ _,rfl,_,rfl,none,0,rfl,Nat.le_refl _,Nat.zero_le _,.inl rfl⟩
theorem vw {p:List C} {q:List T} {S:ad} {pv qv:Value} (h4:RdSl S 5 (RdC S) pv p) (hq:RdSl S 4 (RdT S) qv q) {most fuel:Nat} (hm:most<=20) (hf:fuel<=300) {r:List (List T) × Int} (hr:SolR p q most fuel r) :
  Tri Tryz.prog IK [pv,qv,.int .i64 (most:Int),.int .i64 (fuel:Int)] [] S fun x I' S'=>I'=[]/\∃ v,x=.tuple #[v,.int .i64 r.2]/\RdSl S' 1 (RdAns S') v r.1:=by
 intro w hI
 refine yI.2 ?_
 dsimp only[yI,gX]
 refine Run.call0E GQ Gt hI (Eg h4 hq hm hf hr) fun v' I' S1 w'=>?_
 rintro ⟨rfl,v,rfl,hR⟩ hE1 hI
 refine ai rfl ?_
 refine ai rfl ?_
 exact ⟨_,_,S1,rfl,hI,hE1,rfl,v,rfl,hR⟩
end
end
section
open Go Go.RowKit
section
variable {w w0:World} {X:List Nat} {L A:List Item} {S:ad} {K:Value->World->Prop}
attribute [local irreducible] Run CondV ao aI
end
end
section
open Go Go.RowKit
section
variable {w0 w:World} {X:List Nat} {L:List Item} {S:ad} {K:Value->World->Prop} {ys:List Nat} {v:Value}
attribute [local irreducible] Run CondV ao aI
theorem Light.fit {q:List C} (h:Light 30 900 q):q.length+wP q<=1048576:=by
 have:=h.le; omega
theorem Run.pubCB {f:FuncId} {fn:Func} {args:List Value} {l:List C} {b:Bool} (hf:Tryz.prog.funcs[f]?=some fn) (hn:(fn.name == "runtime.NumGoroutine" || fn.body.isNone)=false) (hI:Inv w0 X L S w)
  (hc:Tri Tryz.prog f args [] S (GX S l b)) (hk:∀ u S' w',Ext w0.heap.size X S S'->RdSl S' 5 (RdC S') u l->Inv w0 X L S' w'->K (.tuple #[u,.bool b]) w'):Run Tryz.prog (dy (.func (.func f) #[] #[]) args) w K:=by
 refine Run.call0E hf hn hI hc fun v' I' S' w'=>?_
 rintro ⟨rfl,u,M,rfl,rfl,hT⟩ _ hI
 obtain ⟨S1,hI,hE,hins⟩:=hI.pubExt
 exact hk u S1 w' hE (hT.rd hins fun _ _ _ hi h=>h.rd hi) hI
theorem qi (h:RdSl S 1 fR v ys):Tri Tryz.prog uc [v] [] S KN:=by
 intro w hI
 refine iY.2 ?_
 dsimp only[iY,aC]
 refine aL hI kE fun b3 w' hI=>?_
 refine Run.call0E tE s9 hI (sQ h) fun v I' S2 w'=>?_
 rintro ⟨rfl,u,q,x,rfl,hr,hl⟩ hE2 hI
 refine ai (v:=u) rfl ?_
 refine ai (v:=.agg x.cells.toArray) rfl ?_
 refine au hI 0 rfl bZ rfl rfl (Pd.one _) fun w' hI=>?_
 refine be hI 0 bZ rfl rfl ?_
 exact ⟨_,[],S2,rfl,hI.nil,hE2,rfl,u,q,x,rfl,hr,hl⟩
end
end
end Go.Proofs.YtcpgagfdeflbkaaGreatDoor
