/- Proofs that are valid, on both sides. -/
import Derived.Test.YtbocelianhcfmaaGreatDoorZEg17
import Derived.Test.YtbocelianhcfmaaGreatDoorZEg2
import Derived.Test.YtbocelianhcfmaaGreatDoorZEg14
import Derived.Test.YtbocelianhcfmaaGreatDoorZEg13
import Derived.Test.YtbocelianhcfmaaGreatDoorZEg16
namespace Go.Proofs.YtbocelianhcfmaaGreatDoor
section
open Go Go.RowKit
section
attribute [local irreducible] Run CondV ar aI
theorem rl {σ:Type} {f:FuncId} {fn:Func} {cap:List Value} {S:ae} {It:σ->List Item} {ok:σ->Prop} {step:σ->PF->Bool × σ} {xs:List PF} {v:Value}
  (hcb:Cb Tryz.prog f fn cap S It ok step (fun v x=>∃ cs,v=.agg cs.toArray/\RdF S cs x) xs) (h:RdSl S 6 (RdF S) v xs) {st:σ} (hok:ok st) :
  Tri Tryz.prog pp [v,fv f cap] (It st) S fun r I' S'=>r=.int .i64 (dj step st xs 0).1/\I'=It (dj step st xs 0).2/\S'=S:=by
 intro w hI
 have hlen:=h.le
 simp only [maxLen] at hlen
 refine il.2 ?_
 dsimp only[il,aY]
 refine aK h bl ?_
 refine ⟨fun i w'=>∃ (k:Nat) (st':σ),k<=xs.length/\i=.int .i64 k/\ok st'/\dj step st' (xs.drop k) k=dj step st xs 0/\Inv w (bz (It st)) (It st') S w',fun i _=>xs.length - (intOf i).toNat,
  ⟨0,st,Nat.zero_le _,rfl,hok,rfl,hI⟩,?_⟩
 intro t8 _ _ _ _ _ _ _ _ _ _ _ _ w'
 rintro ⟨k,st',hk,rfl,hok',hrel,hI⟩
 refine bD ?_
 refine aN (fun hki=>?_) (fun hki=>?_)
 ·have hk':k<xs.length:=by omega
  have hm:=List.getElem_mem hk'
  have hstep:dj step st' (xs.drop k) k=if (step st' xs[k]).1 then ((k:Int),(step st' xs[k]).2) else dj step (step st' xs[k]).2 (xs.drop (k+1)) (k+1):=by
   rw [List.drop_eq_getElem_cons hk',dj]
  refine bP hI h bl aq hk' (fun _ _=>RdF.length) fun cs hcs=>?_
  refine Run.callV (A:=[]) (args:=[.agg cs.toArray]) hcb.hf hcb.hn (by simpa using hI) (hcb.call st' _ _ hm hok' ⟨cs,rfl,hcs⟩) fun v' I' S' w'=>?_
  rintro ⟨rfl,rfl,rfl⟩ _ hI
  refine av (fun hb=>?_) (fun hb=>?_)
  ·rw [if_pos hb] at hstep
   refine ⟨_,_,_,rfl,by simpa using hI,Ext.refl _ _ _,?_,?_,rfl⟩
   ·rw [<- hrel,hstep]
   ·rw [<- hrel,hstep]
  ·refine bm (by omega) ?_
   rw [hb] at hstep
   refine ⟨⟨k+1,_,hk',rfl,hcb.keep st' _ hm hok' hb,?_,by simpa using hI⟩,by simp [intOf]; omega⟩
   rw [<- hrel,hstep]
   rfl
 ·have:k=xs.length:=by omega
  subst this
  rw [List.drop_length,dj] at hrel
  exact ⟨_,_,_,rfl,hI,Ext.refl _ _ _,by rw [<- hrel],by rw [<- hrel],rfl⟩
theorem mW {σ:Type} {f:FuncId} {fn:Func} {cap:List Value} {S:ae} {It:σ->List Item} {ok:σ->Prop} {step:σ->PF->Bool × σ} {xs:List PF} {v:Value}
  (hcb:Cb Tryz.prog f fn cap S It ok step (fun v x=>∃ cs,v=.agg cs.toArray/\RdF S cs x) xs) (h:RdSl S 6 (RdF S) v xs) {st:σ} (hok:ok st) :
  Tri Tryz.prog ml [v,fv f cap] (It st) S fun r I' S'=>r=.bool (lp step st xs).1/\I'=It (lp step st xs).2/\S'=S:=by
 intro w hI
 refine fV.2 ?_
 dsimp only[fV,aY]
 refine Run.call (A:=[]) nw m1 (by simpa using hI) (rl hcb h hok) fun v' I' S' w'=>?_
 rintro ⟨rfl,rfl,rfl⟩ _ hI
 refine iu ?_
 have he:=l9 step xs st 0
 exact ⟨_,_,_,rfl,by simpa using hI,Ext.refl _ _ _,by rw [he.1],by rw [he.2],rfl⟩
end
def wi (g:T) (c:Int) (l:Nat):Bool:=fk g && ((decide (-1<=c) && decide (c<=19)) && decide (l<=6))
mutual
def eY:PF->Int->Int->Bool × Int
 | .mk g c ks,deep,n=>if 60<n+1 ∨ 20<deep then (false,n+1) else if wi g c ks.length=true then fR ks (deep+1) (n+1) else (false,n+1)
def fR:List PF->Int->Int->Bool × Int
 | [],_,n=>(true,n)
 | t::ts,deep,n=>if (eY t deep n).1 then fR ts deep (eY t deep n).2 else (false,(eY t deep n).2)
end
mutual
def vu:PF->Int->Bool
 | .mk g c ks,d=>decide (1<=d) && (wi g c ks.length && mG ks (d - 1))
def mG:List PF->Int->Bool
 | [],_=>true
 | t::ts,d=>vu t d && mG ts d
end
mutual
def gr:PF->Int
 | .mk _ _ ks=>1+dv ks
def dv:List PF->Int
 | []=>0
 | t::ts=>gr t+dv ts
end
def cR (x:PF):Bool:=vu x 20 && decide (gr x<=60)
mutual
theorem nW:∀ t:PF,1<=gr t
 | .mk _ _ ks=>by
  have:=gS ks
  rw [gr]; omega
theorem gS:∀ ts:List PF,0<=dv ts
 | []=>Int.le_refl _
 | t::ts=>by
  have h1:=nW t
  have h2:=gS ts
  rw [dv]; omega
end
mutual
theorem tG:∀ (t:PF) (deep n:Int),(eY t deep n).1=(vu t (21 - deep) && decide (n+gr t<=60))/\((eY t deep n).1=true->(eY t deep n).2=n+gr t)
 | .mk g c ks,deep,n=>by
  have hl:=gS ks
  rw [eY,vu,gr]
  by_cases h1:60<n+1 ∨ 20<deep
  ·rw [if_pos h1]
   refine ⟨?_,fun h=>by cases h⟩
   rcases h1 with h1|h1
   ·rw [decide_eq_false (show ¬ (n+(1+dv ks)<=60) by omega),Bool.and_false]
   ·rw [decide_eq_false (show ¬ (1<=21 - deep) by omega)]; rfl
  ·rw [if_neg h1,decide_eq_true (show 1<=21 - deep by omega),Bool.true_and]
   cases hn:wi g c ks.length with
   | false=>exact ⟨rfl,fun h=>by cases h⟩
   | true=>
    rw [if_pos rfl,Bool.true_and]
    have:=BT ks (deep+1) (n+1)
    rw [show 21 - (deep+1)=21 - deep - 1 by omega] at this
    rw [show n+(1+dv ks)=n+1+dv ks by omega]
    refine ⟨?_,this.2⟩
    rw [this.1]
    cases ks with
    | nil=>rw [show dv []=0 from rfl,decide_eq_true (show n+1+0<=60 by omega)]; rfl
    | cons t ts=>simp
theorem BT:∀ (ts:List PF) (deep n:Int),(fR ts deep n).1=(mG ts (21 - deep) && (ts.isEmpty || decide (n+dv ts<=60)))/\((fR ts deep n).1=true->(fR ts deep n).2=n+dv ts)
 | [],deep,n=>by simp [fR,mG,dv]
 | t::ts,deep,n=>by
  have ht:=tG t deep n
  have hp:=gS ts
  rw [fR,mG,dv,List.isEmpty_cons,Bool.false_or]
  cases h1:(eY t deep n).1 with
  | false=>
   rw [h1] at ht
   have h2:=ht.1
   refine ⟨?_,fun h=>by cases h⟩
   simp only [Bool.false_eq_true,if_false]
   cases hs:vu t (21 - deep) with
   | false=>rfl
   | true=>
    rw [hs,Bool.true_and] at h2
    have:¬ (n+gr t<=60):=of_decide_eq_false h2.symm
    rw [decide_eq_false (show ¬ (n+(gr t+dv ts)<=60) by omega),Bool.and_false]
  | true=>
   rw [h1] at ht
   have h2:=ht.1
   have h3:=ht.2 rfl
   simp only [if_true]
   rw [h3]
   have hs:vu t (21 - deep)=true/\n+gr t<=60:=by
    have:=h2.symm
    simpa using this
   have hl:=BT ts deep (n+gr t)
   rw [show n+(gr t+dv ts)=n+gr t+dv ts by omega]
   refine ⟨?_,hl.2⟩
   rw [hl.1,hs.1,Bool.true_and]
   cases ts with
   | nil=>rw [show dv []=0 from rfl,decide_eq_true (show n+gr t+0<=60 by omega)]; rfl
   | cons u us=>simp
end
theorem nG (t:PF):(eY t 1 0).1=cR t:=by
 rw [(tG t 1 0).1,cR]
 simp
theorem Gl:∀ (t:PF) (deep n:Int),n<=60->(eY t deep n).1=true->n<(eY t deep n).2/\(eY t deep n).2<=60:=by
 intro t deep n hn h
 have:=tG t deep n
 rw [this.2 h]
 have h1:=this.1
 rw [h] at h1
 have h2:=h1.symm
 simp at h2
 have:=nW t
 omega
theorem zH (deep:Int):∀ (ks:List PF) (n:Int),lp (fun n t=>(!(eY t deep n).1,(eY t deep n).2)) n ks=(!(fR ks deep n).1,(fR ks deep n).2)
 | [],n=>by simp [lp,fR]
 | t::ts,n=>by
  by_cases h:(eY t deep n).1=true
  ·simp [lp,fR,h,zH deep ts]
  ·simp [lp,fR,h]
mutual
def px:PF->Int->Int
 | .mk _ _ ks,m=>gM ks 1 m
def gM:List PF->Int->Int->Int
 | [],n,_=>n
 | t::ts,n,m=>if n<=m then gM ts (n+px t (m - n)) m else n
end
mutual
theorem tW:∀ (t:PF) (m:Int),0<=m->1<=px t m/\px t m<=m+1/\(gr t<=m->px t m=gr t)/\(m<gr t->m<px t m)
 | .mk g c ks,m,hm=>by
  have h:=Bt ks 1 m hm (by omega) (by omega)
  rw [px,gr]
  exact h
theorem Bt:∀ (ts:List PF) (n m:Int),0<=m->1<=n->n<=m+1->1<=gM ts n m/\gM ts n m<=m+1/\(n+dv ts<=m->gM ts n m=n+dv ts)/\(m<n+dv ts->m<gM ts n m)
 | [],n,m,hm,hn,hn2=>by rw [gM,dv]; omega
 | t::ts,n,m,hm,hn,hn2=>by
  have hp:=gS ts
  have hp1:=nW t
  rw [gM,dv]
  split
  ·rename_i hle
   obtain ⟨h1,h2,h3,h4⟩:=tW t (m - n) (by omega)
   obtain ⟨g1,g2,g3,g4⟩:=Bt ts (n+px t (m - n)) m hm (by omega) (by omega)
   refine ⟨g1,g2,fun h=>?_,fun h=>?_⟩
   ·have:=h3 (by omega)
    rw [g3 (by omega)]
    omega
   ·by_cases hc:gr t<=m - n
    ·have:=h3 hc
     exact g4 (by omega)
    ·have:=h4 (by omega)
     exact g4 (by omega)
  ·omega
end
theorem MF (t:PF):decide (px t 60<=60)=decide (gr t<=60):=by
 obtain ⟨_,_,h3,h4⟩:=tW t 60 (by omega)
 rw [decide_eq_decide]
 constructor
 ·intro h
  rcases Int.lt_or_le 60 (gr t) with h5|h5
  ·have:=h4 h5; omega
  ·exact h5
 ·intro h
  rw [h3 h]; exact h
section
attribute [local irreducible] Run CondV ar aI
theorem mN:∀ (t:PF) (S:ae) (cs:List Value) (deep n:Int) (bc:Nat),RdF S cs t->0<=deep->deep<=21->0<=n->n<=60->
  Tri Tryz.prog A8 [.agg cs.toArray,.int .i64 deep,.pointer (some ⟨bc,0,none⟩)] [dX bc n] S (kZ bc S (eY t deep n)):=by
 refine PF.ind fun g c ks ih S cs deep n bc h hd0 hd1 hc0 hc1=>?_
 intro w hI
 obtain ⟨kv,kf,rfl,hg,hc,hks⟩:=RdF.iff.1 h
 simp only [PF.goal,PF.kids,PF.clause] at hg hc hks ⊢
 have hend:∀ {L:List Item} {w':World} {v:Value} (r:Bool × Int),Inv w (bz [dX bc n]) (dX bc r.2::L) S w'->v=.bool r.1->r=eY (.mk g c ks) deep n->
   ∃ v' I' S',Ending.returned v=.returned v'/\Inv w (bz [dX bc n]) I' S' w'/\Ext w.heap.size (bz [dX bc n]) S S'/\kZ bc S (eY (.mk g c ks) deep n) v' I' S':=by
  intro L w' v r h1 h2 h3
  subst h3
  exact ⟨_,_,_,rfl,h1.pick [true],Ext.refl _ _ _,h2,rfl,rfl⟩
 refine oJ.2 ?_
 dsimp only[oJ,cM]
 refine be hI fun b3 w' hI=>?_
 refine be hI fun b4 w' hI=>?_
 refine be hI fun b5 w' hI=>?_
 refine ax hI 3 o4 rfl rfl ?_
 refine cz ?_
 refine ax hI 0 aw rfl rfl ?_
 refine bm (by omega) ?_
 refine cz ?_
 refine dB hI 0 (n:=1) rfl (by rw [aw]; rfl) rfl (Nat.le_of_ble_eq_true rfl) (by simp [Value.cells]; rfl) fun w' hI=>?_
 have hI:Inv w (bz [dX bc n]) [dX bc (n+1),.blk b3 (.cells #[.int .i64 g.kind,.int .i64 g.n,.string g.name,kv,.int .i64 c,kf] af),.blk b4 (.cells #[.int .i64 deep] eN),.blk b5 (.cells #[.pointer (some ⟨bc,0,none⟩)] fA)] S w':=hI
 have hkl:decide ((6:Int)<(ks.length:Int))=!decide (ks.length<=6):=by
  rw [<- decide_not,decide_eq_decide]; omega
 refine ⟨fun t w'=>t=.bool (decide (60<n+1 ∨ 20<deep) || !wi g c ks.length)/\Inv w (bz [dX bc n]) [dX bc (n+1),.blk b3 (.cells #[.int .i64 g.kind,.int .i64 g.n,.string g.name,kv,.int .i64 c,kf] af),.blk b4 (.cells #[.int .i64 deep] eN),.blk b5 (.cells #[.pointer (some ⟨bc,0,none⟩)] fA)] S w',?_,?_⟩
 ·refine ax hI 3 o4 rfl rfl ?_
  refine cz ?_
  refine ax hI 0 aw rfl rfl ?_
  refine cY ?_
  cases h1:decide ((60:Int)<n+1)
  ·have h1:=of_decide_eq_false h1
   refine rpG ?_
   refine ax hI 2 aw rfl rfl ?_
   refine cY ?_
   cases h2:decide ((20:Int)<deep)
   ·have h2:=of_decide_eq_false h2
    rw [decide_eq_false (fun h=>h.elim h1 h2),Bool.false_or,wi]
    refine rpG ?_
    refine ao cZ ?_
    refine b0 hI 1 [_,_,_,_] ac rfl rfl nu ?_
    refine Run.callPure yg ye hI (vw hg) fun w' hI=>?_
    refine bW ?_
    cases h3:fk g
    ·refine rpG ?_
     exact ⟨rfl,hI⟩
    refine rpG ?_
    refine ad hI 1 rfl cF aw rfl ?_
    refine Run.callPure kz kt hI (iY _ _ _ S) fun w' hI=>?_
    refine bW ?_
    cases h4:(decide (-1<=c) && decide (c<=19))
    ·refine rpG ?_
     exact ⟨rfl,hI⟩
    refine rpG ?_
    refine ad hI 1 rfl aW aZ rfl ?_
    refine aK hks bl ?_
    refine cY ?_
    rw [hkl]
    refine rpG ?_
    exact ⟨rfl,hI⟩
   ·refine rpG ?_
    rw [decide_eq_true (.inr (of_decide_eq_true h2)),Bool.true_or]
    exact ⟨rfl,hI⟩
  ·refine rpG ?_
   rw [decide_eq_true (.inl (of_decide_eq_true h1)),Bool.true_or]
   exact ⟨rfl,hI⟩
 intro q _ _ _ _ _ _ _ _ _ _ _ _ _ _ _ _ _ _ _ _ _ _ _ _ _ w'
 rintro ⟨rfl,hI⟩
 refine av (fun hb=>?_) (fun hb=>?_)
 ·refine hend (false,n+1) hI rfl ?_
  rw [eY]
  by_cases h1:60<n+1 ∨ 20<deep
  ·rw [if_pos h1]
  ·rw [decide_eq_false h1,Bool.false_or,Bool.not_eq_true'] at hb
   rw [if_neg h1,hb]
   rfl
 ·rw [Bool.or_eq_false_iff,Bool.not_eq_false'] at hb
  have hsc:eY (.mk g c ks) deep n=fR ks (deep+1) (n+1):=by
   rw [eY,if_neg (of_decide_eq_false hb.1),if_pos hb.2]
  have hn60:=of_decide_eq_false hb.1
  refine ad hI 1 rfl aW aZ rfl ?_
  refine xW ?_
  have hcb:Cb Tryz.prog xp Tryz.f48 [.pointer (some ⟨b4,0,none⟩),.pointer (some ⟨b5,0,none⟩)] S
    (fun c:Int=>[dX bc c,.blk b4 (.cells #[.int .i64 deep] eN),.blk b5 (.cells #[.pointer (some ⟨bc,0,none⟩)] fA)]) (fun c=>0<=c/\c<=60)
    (fun c t=>(!(eY t (deep+1) c).1,(eY t (deep+1) c).2)) (fun v x=>∃ cs,v=.agg cs.toArray/\RdF S cs x) ks:=by
   refine ⟨uW,uK,fun st x _ hst hf=>?_,fun st x v hx hst=>?_⟩
   ·have:=Gl x (deep+1) st hst.2 (by simpa using hf)
    omega
   ·rintro ⟨cs,rfl,hcs⟩ w1 hI
    have hl:=hcs.length
    refine lR.2 ?_
    dsimp only[lR,cM]
    refine be hI fun b w' hI=>?_
    refine ag hI 3 aq rfl (by simpa [Value.cells] using hl) ?_
    refine ax hI 1 aw rfl rfl ?_
    refine bm (by omega) ?_
    refine ax hI 2 o4 rfl rfl ?_
    have hI:=hI.perm (M:=[.blk b4 (.cells #[.int .i64 deep] eN),.blk b5 (.cells #[.pointer (some ⟨bc,0,none⟩)] fA),.blk b (.cells (Value.agg cs.toArray).cells af)]++[dX bc st])
     (List.perm_append_comm (l₁:=[_,_,_]) (l₂:=[dX bc st]))
    refine Run.call jM jS hI (ih x hx S cs (deep+1) st bc hcs (by omega) (by omega) hst.1 hst.2) fun v' I' S' w'=>?_
    rintro ⟨rfl,rfl,rfl⟩ _ hI
    refine bW ?_
    have hI:=(hI.perm (M:=[dX bc (eY x (deep+1) st).2]++[.blk b4 (.cells #[.int .i64 deep] eN),.blk b5 (.cells #[.pointer (some ⟨bc,0,none⟩)] fA),.blk b (.cells (Value.agg cs.toArray).cells af)])
     List.perm_append_comm).pick [true,true,true,false]
    exact ⟨_,_,_,rfl,hI,Ext.refl _ _ _,rfl,rfl,rfl⟩
  have hI:=hI.perm (M:=[.blk b3 (.cells #[.int .i64 g.kind,.int .i64 g.n,.string g.name,kv,.int .i64 c,kf] af)]++[dX bc (n+1),.blk b4 (.cells #[.int .i64 deep] eN),.blk b5 (.cells #[.pointer (some ⟨bc,0,none⟩)] fA)]) (List.Perm.swap _ _ _)
  refine Run.call lH lO hI (mW hcb hks ⟨by omega,by omega⟩) fun v' I' S' w'=>?_
  rintro ⟨rfl,rfl,rfl⟩ _ hI
  refine bW ?_
  rw [zH] at hI ⊢
  have hI:=hI.perm (M:=[dX bc (fR ks (deep+1) (n+1)).2,.blk b3 (.cells #[.int .i64 g.kind,.int .i64 g.n,.string g.name,kv,.int .i64 c,kf] af),.blk b4 (.cells #[.int .i64 deep] eN),.blk b5 (.cells #[.pointer (some ⟨bc,0,none⟩)] fA)]) (List.Perm.swap _ _ _)
  exact hend (fR ks (deep+1) (n+1)) hI (by simp) hsc.symm
theorem j4 {t:PF} {S:ae} {cs:List Value} (h:RdF S cs t):Pure Tryz.prog oF [.agg cs.toArray] S (.bool (cR t)):=by
 intro w hI
 have hl:=h.length
 refine mI.2 ?_
 dsimp only[mI,aE]
 refine be hI fun b1 w' hI=>?_
 refine aA hI IO fun b2 w' hI=>?_
 refine dB hI 1 (n:=1) rfl (by rw [aw]; rfl) rfl (Nat.le_of_ble_eq_true rfl) (by simp [Value.cells]; rfl) fun w' hI=>?_
 refine ag hI 0 aq rfl (by simpa [Value.cells] using hl) ?_
 refine Run.call (A:=[_]) (I:=[dX b2 0]) jM jS hI (mN t S cs 1 0 b2 h (by omega) (by omega) (by omega) (by omega)) fun v' I' S' w'=>?_
 rintro ⟨rfl,rfl,rfl⟩ _ hI
 exact done hI (by rw [nG])
theorem zJ:∀ (t:PF) (S:ae) (cs:List Value) (d:Int),RdF S cs t->wF t<=1048576->-100<=d->d<=100->Pure Tryz.prog CQ [.agg cs.toArray,.int .i64 d] S (.bool (vu t d)):=by
 refine PF.ind fun g c ks ih S cs d h hw hd0 hd1=>?_
 intro w hI
 obtain ⟨kv,kf,rfl,hg,hc,hks⟩:=RdF.iff.1 h
 simp only [PF.goal,PF.kids,PF.clause] at hg hc hks ⊢
 have hlen:=hks.le
 simp only [maxLen] at hlen
 rw [wF] at hw
 rw [vu]
 refine pL.2 ?_
 dsimp only[pL,aY]
 refine be hI fun b2 w' hI=>?_
 have hI:Inv w [] [.blk b2 (.cells #[.int .i64 g.kind,.int .i64 g.n,.string g.name,kv,.int .i64 c,kf] af)] S w':=hI
 have hkl:decide ((6:Int)<(ks.length:Int))=!decide (ks.length<=6):=by
  rw [<- decide_not,decide_eq_decide]; omega
 have hcl:decide (c < -1)=!decide (-1<=c):=by rw [<- decide_not,decide_eq_decide]; omega
 have hcg:decide ((20:Int)<=c)=!decide (c<=19):=by rw [<- decide_not,decide_eq_decide]; omega
 have hdl:decide (d<1)=!decide (1<=d):=by rw [<- decide_not,decide_eq_decide]; omega
 refine ⟨fun t w'=>t=.bool (!(decide (1<=d) && wi g c ks.length))/\Inv w [] [.blk b2 (.cells #[.int .i64 g.kind,.int .i64 g.n,.string g.name,kv,.int .i64 c,kf] af)] S w',?_,?_⟩
 ·refine bD ?_
  rw [hdl,wi]
  cases h1:decide (1<=d)
  ·refine rpG ?_
   exact ⟨rfl,hI⟩
  refine rpG ?_
  refine ao cZ ?_
  refine b0 hI 0 [_,_,_,_] ac rfl rfl nu ?_
  refine Run.callPure jL jF hI (gI hg (by omega)) fun w' hI=>?_
  refine bW ?_
  cases h3:fk g
  ·refine rpG ?_
   exact ⟨rfl,hI⟩
  refine rpG ?_
  refine ad hI 0 rfl cF aw rfl ?_
  refine bD ?_
  rw [hcl]
  cases h4:decide (-1<=c)
  ·refine rpG ?_
   exact ⟨rfl,hI⟩
  refine rpG ?_
  refine ad hI 0 rfl cF aw rfl ?_
  refine iu ?_
  rw [hcg]
  cases h5:decide (c<=19)
  ·refine rpG ?_
   exact ⟨rfl,hI⟩
  refine rpG ?_
  refine ad hI 0 rfl aW aZ rfl ?_
  refine aK hks bl ?_
  refine cY ?_
  rw [hkl]
  refine rpG ?_
  exact ⟨rfl,hI⟩
 intro q _ _ _ _ _ _ _ _ _ _ _ _ _ _ _ _ _ _ _ _ _ _ _ w'
 rintro ⟨rfl,hI⟩
 refine av (fun hb=>done hI ?_) (fun hb=>?_)
 ·rw [Bool.not_eq_true'] at hb
  rw [<- Bool.and_assoc,hb]; rfl
 rw [Bool.not_eq_false',Bool.and_eq_true] at hb
 rw [hb.1,hb.2,Bool.true_and,Bool.true_and]
 refine ⟨fun i w'=>∃ k:Nat,k<=ks.length/\i=.int .i64 k/\mG (ks.drop k) (d - 1)=mG ks (d - 1)/\Inv w [] [.blk b2 (.cells #[.int .i64 g.kind,.int .i64 g.n,.string g.name,kv,.int .i64 c,kf] af)] S w',
  fun i _=>ks.length - (intOf i).toNat,⟨0,Nat.zero_le _,rfl,rfl,hI⟩,?_⟩
 intro i _ _ _ _ _ _ _ _ _ _ _ _ _ _ _ _ _ w'
 rintro ⟨k,hk,rfl,hrel,hI⟩
 refine ad hI 0 rfl aW aZ rfl ?_
 refine aK hks bl ?_
 refine bD ?_
 refine aN (fun hki=>?_) (fun hki=>?_)
 ·have hk':k<ks.length:=by omega
  have hm:=List.getElem_mem hk'
  have hwm:=xT hm
  rw [List.drop_eq_getElem_cons hk',mG] at hrel
  refine ad hI 0 rfl aW aZ rfl ?_
  refine bP hI hks bl aq hk' (fun _ _=>RdF.length) fun ds hds=>?_
  refine gy (by omega) ?_
  have hge:1<=d:=of_decide_eq_true hb.1
  refine Run.callPure qq qj hI (ih _ hm S ds (d - 1) hds (by omega) (by omega) (by omega)) fun w' hI=>?_
  refine bW ?_
  refine av (fun hne=>done hI ?_) (fun he=>?_)
  ·rw [Bool.not_eq_true'] at hne
   rw [<- hrel,hne]; rfl
  ·rw [Bool.not_eq_false'] at he
   rw [he,Bool.true_and] at hrel
   refine bm (by omega) ?_
   exact ⟨⟨k+1,hk',rfl,hrel,hI⟩,by simp [intOf]; omega⟩
 ·have:k=ks.length:=by omega
  subst this
  exact done hI (by rw [<- hrel,List.drop_length]; rfl)
theorem qs:∀ (t:PF) (S:ae) (cs:List Value) (m:Int),RdF S cs t->0<=m->m<=1000000->Pure Tryz.prog EW [.agg cs.toArray,.int .i64 m] S (.int .i64 (px t m)):=by
 refine PF.ind fun g c ks ih S cs m h hm0 hm1=>?_
 intro w hI
 obtain ⟨kv,kf,rfl,hg,hc,hks⟩:=RdF.iff.1 h
 simp only [PF.goal,PF.kids,PF.clause] at hg hc hks ⊢
 have hlen:=hks.le
 simp only [maxLen] at hlen
 rw [px]
 refine sZ.2 ?_
 dsimp only[sZ,aY]
 refine be hI fun b2 w' hI=>?_
 have hI:Inv w [] [.blk b2 (.cells #[.int .i64 g.kind,.int .i64 g.n,.string g.name,kv,.int .i64 c,kf] af)] S w':=hI
 refine ⟨fun i t w'=>∃ (k:Nat) (n:Int),k<=ks.length/\i=.int .i64 k/\t=.int .i64 n/\1<=n/\n<=m+1/\gM (ks.drop k) n m=gM ks 1 m/\Inv w [] [.blk b2 (.cells #[.int .i64 g.kind,.int .i64 g.n,.string g.name,kv,.int .i64 c,kf] af)] S w',
  fun i _ _=>ks.length - (intOf i).toNat,⟨0,1,Nat.zero_le _,rfl,rfl,by omega,by omega,rfl,hI⟩,?_⟩
 intro i _ _ t _ _ _ _ _ _ _ _ _ _ _ _ _ _ _ _ _ _ _ _ _ w'
 rintro ⟨k,n,hk,rfl,rfl,hn0,hn1,hrel,hI⟩
 refine ⟨fun q w'=>q=.bool (decide (k<ks.length) && decide (n<=m))/\Inv w [] [.blk b2 (.cells #[.int .i64 g.kind,.int .i64 g.n,.string g.name,kv,.int .i64 c,kf] af)] S w',?_,?_⟩
 ·refine ad hI 0 rfl aW aZ rfl ?_
  refine aK hks bl ?_
  refine bD ?_
  have el:decide ((k:Int)<(ks.length:Int))=decide (k<ks.length):=by rw [decide_eq_decide]; omega
  rw [el]
  cases h1:decide (k<ks.length)
  ·refine rpG ?_
   exact ⟨rfl,hI⟩
  refine rpG ?_
  refine fi ?_
  refine rpG ?_
  exact ⟨rfl,hI⟩
 intro q _ _ _ _ _ _ _ _ _ w'
 rintro ⟨rfl,hI⟩
 refine av (fun hb=>?_) (fun hb=>?_)
 ·rw [Bool.and_eq_true,decide_eq_true_eq,decide_eq_true_eq] at hb
  obtain ⟨hk',hnm⟩:=hb
  have hm:=List.getElem_mem hk'
  rw [List.drop_eq_getElem_cons hk',gM,if_pos hnm] at hrel
  obtain ⟨s1,s2,_,_⟩:=tW ks[k] (m - n) (by omega)
  refine ad hI 0 rfl aW aZ rfl ?_
  refine bP hI hks bl aq hk' (fun _ _=>RdF.length) fun ds hds=>?_
  refine gy (by omega) ?_
  refine Run.callPure mo mh hI (ih _ hm S ds (m - n) hds (by omega) (by omega)) fun w' hI=>?_
  refine bm (by omega) ?_
  refine bm (by omega) ?_
  exact ⟨⟨k+1,_,hk',rfl,rfl,by omega,by omega,hrel,hI⟩,by simp [intOf]; omega⟩
 ·refine done hI ?_
  rw [<- hrel]
  by_cases hk':k<ks.length
  ·rw [decide_eq_true hk',Bool.true_and] at hb
   rw [List.drop_eq_getElem_cons hk',gM,if_neg (of_decide_eq_false hb)]
  ·have:k=ks.length:=by omega
   subst this
   rw [List.drop_length,gM]
theorem eW {t:PF} {S:ae} {cs:List Value} (h:RdF S cs t) (hw:wF t<=1048576):Pure Tryz.prog nS [.agg cs.toArray] S (.bool (cR t)):=by
 intro w hI
 have hl:=h.length
 refine mE.2 ?_
 dsimp only[mE,aE]
 refine be hI fun b1 w' hI=>?_
 refine ag hI 0 aq rfl (by simpa [Value.cells] using hl) ?_
 refine Run.callPure qq qj hI (zJ t S cs 20 h hw (by omega) (by omega)) fun w' hI=>?_
 rw [cR]
 cases hs:vu t 20
 ·refine rpG ?_
  exact done hI rfl
 refine rpG ?_
 refine ag hI 0 aq rfl (by simpa [Value.cells] using hl) ?_
 refine Run.callPure mo mh hI (qs t S cs 60 h (by omega) (by omega)) fun w' hI=>?_
 refine fi ?_
 rw [MF]
 refine rpG ?_
 exact done hI rfl
end
end
section
open Go Go.RowKit
section
variable {S:ae} {ys:List Nat} {v:Value}
attribute [local irreducible] Run CondV ar aI
end
end
section
open Go Go.RowKit

section
attribute [local irreducible] Run CondV ar aI
end
end
section
open Go Go.RowKit
def Agk (σ:Int->T) (st:aG):Prop:=∀ (i:Nat) (t:T),st[i]?=some (some t)->σ i=t
def Gek (st st':aG):Prop:=st'.length=st.length/\∀ (i:Nat) (t:T),st[i]?=some (some t)->st'[i]?=some (some t)
theorem Gek.refl (st:aG):Gek st st:=⟨rfl,fun _ _ h=>h⟩
theorem Gek.trans {a b c:aG} (h:Gek a b) (h':Gek b c):Gek a c:=⟨h'.1.trans h.1,fun i t hi=>h'.2 i t (h.2 i t hi)⟩
theorem Agk.less {σ:Int->T} {a b:aG} (h:Agk σ b) (hg:Gek a b):Agk σ a:=fun i t hi=>h i t (hg.2 i t hi)
end
section
open Go Go.RowKit
section
variable {S:ae} {ys zs:List Nat} {v u:Value}
attribute [local irreducible] Run CondV ar aI
theorem RdC.cells {S:ae} {cs:List Value} {c:C} (h:RdC S cs c):∃ kv kb,cs=[.int .i64 c.head.kind,.int .i64 c.head.n,.string c.head.name,kv,kb]/\RdT S [.int .i64 c.head.kind,.int .i64 c.head.n,.string c.head.name,kv] c.head/\RdSl S 4 (RdT S) kb c.body:=by
 obtain ⟨hd,kb,rfl,h1,h2⟩:=h
 have h1':=h1
 obtain ⟨kv,rfl,_⟩:=RdT.iff.1 h1
 exact ⟨kv,kb,rfl,h1',h2⟩
end
end
section
open Go Go.RowKit
theorem tX {t:T} (h:cE t=true):wT t<=840:=by
 have ho:=li h
 have h1:=HT t ho
 rw [cE,Bool.and_eq_true] at h
 have h2:dl t<=120:=by simpa using h.2
 omega
theorem oq {g:T} (h:fk g=true):cE g=true:=by
 rw [fk,Bool.and_eq_true] at h; exact h.1
def bltF (g:T) (f:Bool):Prop:=(dw g=false/\f=false) ∨ (dw g=true/\∃ code st',Blt QK g code st'/\f=Qx code st')
theorem bltF.ex {g:T} (h:cE g=true):∃ f,bltF g f:=by
 cases hb:dw g with
 | false=>exact ⟨false,.inl ⟨hb,rfl⟩⟩
 | true=>
  have:=tX h
  obtain ⟨c,st',hB⟩:=Blt.ex (Ka 26) hb ⟨li h,by omega⟩
  exact ⟨_,.inr ⟨hb,c,st',hB,rfl⟩⟩
open Classical in
noncomputable def bltV (g:T):Bool:=if h:∃ f,bltF g f then h.choose else false
def Ov:List T->List PF->aG->Bool
 | g::gs,x::xs,st=>!kO g && ((mg g x.goal st).1 && Ov gs xs (mg g x.goal st).2)
 | _,_,_=>true
noncomputable def nodeC (p:List C) (g:T) (c:Int) (ks:List PF):Bool:=if c<0 then decide (ks.length=0) && bltV g else match p[c.toNat]? with
 | none=>false
 | some q=>decide (ks.length=q.body.length) && ((mg q.head g st0).1 && Ov q.body ks (mg q.head g st0).2)
mutual
noncomputable def chkF (p:List C):PF->Bool
 | .mk g c ks=>nodeC p g c ks && chkFL p ks
noncomputable def chkFL (p:List C):List PF->Bool
 | []=>true
 | x::xs=>chkF p x && chkFL p xs
end
noncomputable def interL (p:List C):List T->List PF->aG->Bool
 | g::gs,x::xs,st=>!kO g && ((mg g x.goal st).1 && (chkF p x && interL p gs xs (mg g x.goal st).2))
 | _,_,_=>true
section
attribute [local irreducible] Run CondV ar aI
end
end
section
open Go Go.RowKit
mutual
def okM:T->Prop
 | .mk k n s ks=>(k=2->-999<=n/\n<=999)/\(k≠3->s=emptyB)/\lM ks
def lM:List T->Prop
 | []=>True
 | t::ts=>okM t/\lM ts
end
theorem oD:∀ {ts:List T},lM ts->∀ t∈ts,okM t
 | t::ts,h,x,hx=>by
  rw [lM] at h
  rcases List.mem_cons.1 hx with rfl|hx
  ·exact h.1
  ·exact oD h.2 x hx
theorem JA:∀ {ts:List T},(∀ t∈ts,okM t)->lM ts
 | [],_=>by rw [lM]; trivial
 | t::ts,h=>by rw [lM]; exact ⟨h t (List.mem_cons_self ..),JA fun u hu=>h u (List.mem_cons_of_mem _ hu)⟩
theorem okM.kids {t:T} (h:okM t):lM t.kids:=by cases t; rw [okM] at h; exact h.2.2
mutual
theorem okM.okN:∀ {t:T},okM t->okN t
 | .mk k n s ks,h=>by
  rw [okM] at h
  rw [Go.Proofs.YtbocelianhcfmaaGreatDoor.okN]
  exact ⟨h.1,Fz h.2.2⟩
theorem Fz:∀ {ts:List T},lM ts->Df ts
 | [],_=>by rw [Df]; trivial
 | t::ts,h=>by
  rw [lM] at h
  rw [Df]
  exact ⟨okM.okN h.1,Fz h.2⟩
end
mutual
theorem Ct:∀ (t:T) (d:Int),ei t d=true->okM t
 | .mk k n s ks,d,h=>by
  rw [ei] at h
  split at h
  ·cases h
  rw [Bool.and_eq_true] at h
  obtain ⟨ho,hk⟩:=h
  rw [okM]
  have h2:k=2->(-999<=n/\n<=999)/\s=emptyB:=by
   intro e
   subst e
   have ho2:dC (.mk 2 n s ks)=(decide (-999<=n) && (decide (n<=999) && (decide (s=emptyB) && decide (ks.length=0)))):=by
    rw [dC]; exact (if_neg (show ¬ (2:Int)=1 by decide)).trans (if_pos rfl)
   rw [ho2,Bool.and_eq_true,Bool.and_eq_true,Bool.and_eq_true] at ho
   exact ⟨⟨of_decide_eq_true ho.1,of_decide_eq_true ho.2.1⟩,of_decide_eq_true ho.2.2.1⟩
  refine ⟨fun e=>(h2 e).1,fun e=>?_,yb ks _ hk⟩
  by_cases e2:k=2
  ·exact (h2 e2).2
  ·have ho:(if k=1 then decide (0<=n) && (decide (n<=25) && (decide (s=emptyB) && decide (ks.length=0))) else if k=2 then decide (-999<=n) && (decide (n<=999) && (decide (s=emptyB) && decide (ks.length=0))) else if k=3 then decide (n=0) && (gt s && decide (ks.length<=4)) else false)=true:=ho
   rw [if_neg e2,if_neg e] at ho
   split at ho
   ·simp only [Bool.and_eq_true,decide_eq_true_eq] at ho
    exact ho.2.2.1
   ·cases ho
theorem yb:∀ (ts:List T) (d:Int),eV ts d=true->lM ts
 | [],_,_=>by rw [lM]; trivial
 | t::ts,d,h=>by
  rw [eV,Bool.and_eq_true] at h
  rw [lM]
  exact ⟨Ct t d h.1,yb ts d h.2⟩
end
theorem o9 {t:T} (h:cE t=true):okM t:=Ct t 30 (xg h)
mutual
theorem o0 (m:Int):∀ t:T,okM t->okM (bT m t)
 | .mk k n s ks,h=>by
  rw [okM] at h
  rw [bT,okM]
  refine ⟨fun e=>?_,h.2.1,yV m ks h.2.2⟩
  rw [if_neg (by omega)]
  exact h.1 e
theorem yV (m:Int):∀ ts:List T,lM ts->lM (fe m ts)
 | [],_=>by rw [fe,lM]; trivial
 | t::ts,h=>by
  rw [lM] at h
  rw [fe,lM]
  exact ⟨o0 m t h.1,yV m ts h.2⟩
end
def tabM (st:aG):Prop:=∀ t,some t∈st->okM t
theorem tabM.set {st:aG} (h:tabM st) {n:Nat} {t:T} (ht:okM t):tabM (st.set n (some t)):=by
 intro u hu
 rcases List.mem_or_eq_of_mem_set hu with hu|hu
 ·exact h u hu
 ·rw [Option.some.injEq] at hu
  subst hu
  exact ht
theorem tabM.look {st:aG} (h:tabM st) {t u:T} (hl:look st t=some u):okM u:=h u (List.mem_of_getElem? (eT.1 hl).2)
theorem tabM.walk {st:aG} (h:tabM st) {t v:T} (hw:dk st t v) (ht:okM t):okM v:=by
 induction hw with
 | stop=>exact ht
 | step hl _ ih=>exact ih (h.look hl)
theorem tabM.grow {st:aG} (h:tabM st) (k:Nat):tabM (st++List.replicate k none):=by
 intro t ht
 rcases List.mem_append.1 ht with ht|ht
 ·exact h t ht
 ·have:=List.eq_of_mem_replicate ht
  cases this
theorem tabM.none (k:Nat):tabM (List.replicate k none):=by
 intro t ht
 have:=List.eq_of_mem_replicate ht
 cases this
def Pa:Job->Prop
 | .one a b=>okM a/\okM b
 | .list xs ys=>(∀ a∈xs,okM a)/\∀ b∈ys,okM b
theorem Uni.okM {st st':aG} {j:Job} {r:Bool} (hu:Uni st j r st'):tabM st->Pa j->tabM st':=by
 induction hu with
 | same=>exact fun h _=>h
 | occA=>exact fun h _=>h
 | occB=>exact fun h _=>h
 | clash=>exact fun h _=>h
 | nil=>exact fun h _=>h
 | bindA ha hb _ _ _=>exact fun h hj=>h.set (h.walk hb hj.2)
 | bindB ha hb _ _ _=>exact fun h hj=>h.set (h.walk ha hj.1)
 | kids ha hb _ _ _ _ ih=>exact fun h hj=>ih h ⟨oD (h.walk ha hj.1).kids,oD (h.walk hb hj.2).kids⟩
 | stop _ ih=>exact fun h hj=>ih h ⟨hj.1 _ (List.mem_cons_self ..),hj.2 _ (List.mem_cons_self ..)⟩
 | go _ _ ih1 ih2=>
  exact fun h hj=>ih2 (ih1 h ⟨hj.1 _ (List.mem_cons_self ..),hj.2 _ (List.mem_cons_self ..)⟩) ⟨fun a ha=>hj.1 a (List.mem_cons_of_mem _ ha),fun b hb=>hj.2 b (List.mem_cons_of_mem _ hb)⟩
theorem Res.okM {st:aG} (hs:tabM st) {j:N2} (h:Res st j):match j with
  | .one t u=>okM t->okM u
  | .list ts us=>(∀ t∈ts,okM t)->∀ u∈us,okM u:=by
 induction h with
 | @one t v us hw _ ih=>
  intro ht
  have hv:=hs.walk hw ht
  have hk:=ih (oD hv.kids)
  cases v
  rw [Go.Proofs.YtbocelianhcfmaaGreatDoor.okM] at hv ⊢
  exact ⟨hv.1,hv.2.1,JA hk⟩
 | nil=>intro _ u hu; cases hu
 | cons _ _ ih1 ih2=>
  intro ht u hu
  rcases List.mem_cons.1 hu with rfl|hu
  ·exact ih1 (ht _ (List.mem_cons_self ..))
  ·exact ih2 (fun t h=>ht t (List.mem_cons_of_mem _ h)) u hu
theorem okM.kd {g:T} (h:okM g) (i:Nat):okM (kd g i):=by
 rw [Go.Proofs.YtbocelianhcfmaaGreatDoor.kd,List.getD_eq_getElem?_getD]
 cases e:g.kids[i]? with
 | none=>
  simp only [Option.getD_none]
  rw [zT,Go.Proofs.YtbocelianhcfmaaGreatDoor.okM,lM]
  exact ⟨fun e=>(by cases e),fun _=>rfl,trivial⟩
 | some u=>exact oD h.kids u (List.mem_of_getElem? e)
theorem NK {n:Int} (h:Sm n):okM (EV n):=by
 rw [EV,okM,lM]
 exact ⟨fun _=>h,fun _=>rfl,trivial⟩
def Qu:BJ->Prop
 | .done _=>True
 | .uni a b=>Pa (.one a b)
 | .not a b=>Pa (.one a b)
theorem O7 {g:T} (h:okM g):Qu (kR g):=by
 unfold kR
 split
 ·trivial
 split
 ·trivial
 split
 ·exact ⟨h.kd _,h.kd _⟩
 split
 ·exact ⟨h.kd _,h.kd _⟩
 split
 ·trivial
 split
 ·split
  ·trivial
  ·exact ⟨h.kd _,NK (rE _ (h.kd _).okN)⟩
 split
 ·unfold zx
  split
  ·trivial
  split
  ·trivial
  split
  ·trivial
  ·exact ⟨h.kd _,(h.kd _).kd _⟩
 split
 ·trivial
 ·trivial
theorem Blt.okM {st st':aG} {g:T} {c:Int} (hs:tabM st) (hg:okM g) (h:Blt st g c st'):tabM st':=by
 have hj:=O7 hg
 unfold Blt at h
 match hb:kR g,h,hj with
 | .done c,h,_=>exact h.2 ▸ hs
 | .uni a b,⟨r,hu,_⟩,hj=>exact hu.okM hs hj
 | .not a b,h,_=>exact h.1 ▸ hs
theorem C4 (n:Int):dc emptyB n=false:=by
 rw [dc,if_neg (by decide +kernel),if_neg (by decide +kernel),if_neg (by decide +kernel),if_neg (by decide +kernel)]
theorem NA {u:T} (h:okM u):dc u.name u.kids.length=dw u:=by
 cases u with
 | mk k n s ks=>
  rw [okM] at h
  show dc s ks.length=(decide (k=3) && dc s ks.length)
  by_cases e:k=3
  ·subst e
   rfl
  ·rw [show (decide (k=3) && dc s ks.length)=false by rw [decide_eq_false e]; rfl,h.2.1 e,C4]
end
section
open Go Go.RowKit
structure sV (cl:C):Prop where
 cf:rb cl
 hd:okM cl.head
 bd:∀ t∈cl.body,okM t
 fr:gO cl<=26
 ln:cl.body.length<=6
 w:wC cl<=1048576
 vs:∀ x∈cB (cl.head::cl.body) [],0<=x/\x<1000000
mutual
theorem Mt {M N:Nat}:∀ t:T,okU M t->(∀ m∈vT t,m<N)->okU N t
 | .mk k n s ks,h,hv=>by
  rw [okU] at h ⊢
  rw [vT] at hv
  refine ⟨h.1,fun e=>?_,?_,h.2.2.2⟩
  ·obtain ⟨q1,q2,q3⟩:=h.2.1 e
   have:=hv n.toNat (by rw [if_pos e]; exact List.mem_singleton.2 rfl)
   exact ⟨q1,by omega,q3⟩
  ·by_cases e:k=1
   ·rw [(h.2.1 e).2.2.2,df]; trivial
   ·rw [if_neg e] at hv
    exact vB ks h.2.2.1 hv
theorem vB {M N:Nat}:∀ ts:List T,df M ts->(∀ m∈vTL ts,m<N)->df N ts
 | [],_,_=>by rw [df]; trivial
 | t::ts,h,hv=>by
  rw [df] at h ⊢
  rw [vTL] at hv
  exact ⟨Mt t h.1 fun m hm=>hv m (List.mem_append_left _ hm),vB ts h.2 fun m hm=>hv m (List.mem_append_right _ hm)⟩
end
theorem ES {cl:C} (h:dg cl=true):sV cl:=by
 obtain ⟨h1,h2,_⟩:=jC h
 have hU:df 26 (cl.head::cl.body):=by rw [df]; exact ⟨h1,xK h2⟩
 have hmem:=qJ (cl.head::cl.body) [] hU
 have hb:=h
 rw [dg] at hb
 simp only [Bool.and_eq_true,decide_eq_true_eq,List.all_eq_true] at hb
 obtain ⟨hl,hgs,hvh,_⟩:=hb
 have hlt:∀ m∈vTL (cl.head::cl.body),m<26:=IL _ hU
 have hfr:∀ m∈vTL (cl.head::cl.body),m<(gO cl).toNat:=by
  intro m hm
  have:=(vA (cB (cl.head::cl.body) []) 0).2 m ((hmem m).2 (.inr ⟨m,hm,rfl⟩))
  rw [gO]
  omega
 have hN:=vB _ hU hfr
 rw [df] at hN
 have hwh:=tX hvh
 have hwb:∀ t∈cl.body,wT t<=840:=fun t ht=>tX (oq (hgs t ht))
 have hvs:∀ x∈cB (cl.head::cl.body) [],0<=x/\x<26:=by
  intro x hx
  rcases (hmem x).1 hx with hx|⟨m,hm,rfl⟩
  ·cases hx
  ·have:=hlt m hm
   omega
 have hwl:∀ ts:List T,(∀ t∈ts,wT t<=840)->wL ts<=841 * ts.length:=by
  intro ts
  induction ts with
  | nil=>intro _; simp [wL]
  | cons t ts ih=>
   intro hh
   have a:=hh t (List.mem_cons_self ..)
   have b:=ih fun u hu=>hh u (List.mem_cons_of_mem _ hu)
   simp only [wL,List.length_cons]
   omega
 have:=hwl _ hwb
 refine ⟨⟨⟨hN.1,by omega⟩,fun t ht=>⟨ol hN.2 t ht,by have:=hwb t ht; omega⟩⟩,o9 hvh,fun t ht=>o9 (oq (hgs t ht)),?_,hl,?_,fun x hx=>⟨(hvs x hx).1,by have:=(hvs x hx).2; omega⟩⟩
 ·exact Cd 26 _ 0 (by omega) fun x hx=>(hvs x hx).2
 ·unfold wC; omega
structure okRk (k:Nat) (c:Ch):Prop where
 nb:c.binds.length<=26+26 * k
 nr:c.rest.length<=1+6 * k
 tab:tabM c.binds
 goal:okM c.goal
 rest:∀ g∈c.rest,okM g.1
 pos:0<c.binds.length
def okLp (N:Nat) (l:List Sp):Prop:=∀ x∈l,(okU N x.goal/\wT x.goal<=1048576)/\0<=x.body/\x.body<=6/\-1<=x.clause/\x.clause<=1000000
structure okXk (k:Nat) (s:Se):Prop where
 nb:s.st.binds.length<=26+26 * k
 ng:s.st.goals.length<=1+6 * k
 nc:s.st.chs.length<=k
 ns:s.steps.length<=k
 tab:tabM s.st.binds
 goals:∀ g∈s.st.goals,okM g.1
 chs:∀ c∈s.st.chs,okRk k c
 steps:okLp s.st.binds.length s.steps
 saved:∀ i (h:i<s.st.chs.length) (h':i<s.saved.length),okLp s.st.chs[i].binds.length s.saved[i]
 nv:∀ l∈s.saved,l.length<=k
 pos:0<s.st.binds.length
theorem okRk.up {k:Nat} {c:Ch} (h:okRk k c):okRk (k+1) c:=⟨by have:=h.nb; omega,by have:=h.nr; omega,h.tab,h.goal,h.rest,h.pos⟩
theorem okLp.mono {N M:Nat} {l:List Sp} (h:okLp N l) (hm:N<=M):okLp M l:=fun x hx=>⟨⟨jA hm _ (h x hx).1.1,(h x hx).1.2⟩,(h x hx).2⟩
theorem okXk.up {k:Nat} {s:Se} (h:okXk k s):okXk (k+1) s:=
 ⟨by have:=h.nb; omega,by have:=h.ng; omega,by have:=h.nc; omega,by have:=h.ns; omega,h.tab,h.goals,fun c hc=>(h.chs c hc).up,h.steps,h.saved,fun l hl=>by have:=h.nv l hl; omega,h.pos⟩
theorem FirstL.of {p:List C} {chs:List Ch} {c:Ch} {l:List Int} {o:Option (St6 × Int × List Int)} (h:FirstL p chs c l o):∀ s i r,o=some (s,i,r)->
  ∃ (n:Nat) (cl:C) (st:aG),i=n/\p[n]?=some cl/\s=jZ chs c cl [] st/\Uni (xy c.binds cl) (.one c.goal (bT c.binds.length cl.head)) true st:=by
 induction h with
 | nil=>intro s i r h; cases h
 | miss _ _ ih=>exact ih
 | hit ht=>
  intro s i r h
  simp only [Option.some.injEq,Prod.mk.injEq] at h
  obtain ⟨rfl,rfl,rfl⟩:=h
  cases ht with
  | hit hi hu=>exact ⟨_,_,_,rfl,hi,rfl,hu⟩
  | miss _ _ h=>cases h
theorem TakeR.okXk {p:List C} (hp:∀ cl∈p,sV cl) (hpl:p.length<=1000000) {k:Nat} {s s':Se} {c:Ch} (h:TakeR p s c (some s')) (hc:iZ c) (hr:okRk k c) (hn:s.saved.length=s.st.chs.length)
  (hcs:∀ d∈s.st.chs,okRk k d) (hcn:s.st.chs.length<=k) (hst:okLp c.binds.length s.steps) (hsn:s.steps.length<=k)
  (hsv:∀ i (h:i<s.st.chs.length) (h':i<s.saved.length),okLp s.st.chs[i].binds.length s.saved[i]) (hsvn:∀ l∈s.saved,l.length<=k):okXk (k+1) s':=by
 cases h with
 | @yes u i l hF=>
  obtain ⟨n,cl,st,rfl,hi,rfl,hu⟩:=hF.of _ _ _ rfl
  have hm:=hp cl (List.mem_of_getElem? hi)
  obtain ⟨hg,_⟩:=hu.good (o6 hc cl) (xS hc hm.cf)
  have htab:tabM st:=hu.okM (hr.tab.grow _) ⟨hr.goal,o0 _ _ hm.hd⟩
  have hlen:=hg.len
  have hfr:=hm.fr
  have hln:=hm.ln
  have hnb:=hr.nb
  have hnr:=hr.nr
  have hpos:=hr.pos
  have hrn:okRk (k+1) ⟨c.goal,c.rest,l,c.binds⟩:=okRk.up ⟨hnb,hnr,hr.tab,hr.goal,hr.rest,hpos⟩
  refine ⟨?_,?_,?_,?_,htab,?_,?_,?_,?_,?_,?_⟩
  ·simp only [gF,jZ]; omega
  ·simp only [gF,jZ,List.length_append,List.length_map]; omega
  ·simp only [gF,List.length_append]; split <;> simp <;> omega
  ·simp only [gF,List.length_append,List.length_singleton]; omega
  ·intro g hg
   simp only [gF,jZ] at hg
   rcases List.mem_append.1 hg with hg|hg
   ·obtain ⟨t,ht,rfl⟩:=List.mem_map.1 hg
    exact o0 _ _ (hm.bd t ht)
   ·exact hr.rest g hg
  ·intro d hd
   simp only [gF] at hd
   rcases List.mem_append.1 hd with hd|hd
   ·exact (hcs d hd).up
   ·split at hd
    ·cases hd
    ·rw [List.mem_singleton] at hd
     subst hd
     exact hrn
  ·intro x hx
   simp only [gF,jZ] at hx ⊢
   rcases List.mem_append.1 hx with hx|hx
   ·exact hst.mono (by omega) x hx
   ·rw [List.mem_singleton] at hx
    subst hx
    simp only [Int.toNat_natCast,hi,Option.elim_some]
    exact ⟨⟨jA (by omega) _ hc.goal.1,hc.goal.2⟩,by omega,by omega,by omega,by have:=(List.getElem?_eq_some_iff.1 hi).1; omega⟩
  ·intro j h1 h2
   simp only [gF] at h1 h2 ⊢
   by_cases hl:l=[]
   ·subst hl
    simp only [if_pos,List.append_nil] at h1 h2 ⊢
    exact hsv j h1 h2
   ·simp only [if_neg hl,List.length_append,List.length_singleton] at h1 h2 ⊢
    by_cases hk:j<s.st.chs.length
    ·rw [List.getElem_append_left hk,List.getElem_append_left (by omega)]
     exact hsv j hk (by omega)
    ·have hk1:j=s.st.chs.length:=by omega
     subst hk1
     rw [List.getElem_append_right (Nat.le_refl _),List.getElem_append_right (by omega)]
     simp only [hn,Nat.sub_self,List.getElem_cons_zero]
     exact hst
  ·intro q hq
   simp only [gF] at hq
   rcases List.mem_append.1 hq with hq|hq
   ·have:=hsvn q hq; omega
   ·split at hq
    ·cases hq
    ·rw [List.mem_singleton] at hq
     subst hq
     omega
  ·simp only [gF,jZ]; omega
def okBL (cs:List Ch) (ss:List (List Sp)):Prop:=∀ i (h:i<cs.length) (h':i<ss.length),okLp cs[i].binds.length ss[i]
theorem okBL.last {cs:List Ch} {ss:List (List Sp)} {c:Ch} {t:List Sp} (h:okBL (cs++[c]) (ss++[t])) (hl:cs.length=ss.length):okBL cs ss/\okLp c.binds.length t:=by
 constructor
 ·intro i h1 h2
  have:=h i (by simp; omega) (by simp; omega)
  rw [List.getElem_append_left h1,List.getElem_append_left h2] at this
  exact this
 ·have:=h cs.length (by simp) (by simp [hl])
  rw [List.getElem_append_right (Nat.le_refl _),List.getElem_append_right (by omega)] at this
  simp only [hl,Nat.sub_self,List.getElem_cons_zero] at this
  exact this
theorem BackR.okXk {p:List C} (hp:∀ cl∈p,sV cl) (hpl:p.length<=1000000) {k:Nat} {cs:List Ch} {ss:List (List Sp)} {o:Option Se} (h:BackR p cs ss o):cs.length=ss.length->(∀ c∈cs,iZ c/\okRk k c)->cs.length<=k->okBL cs ss->(∀ l∈ss,l.length<=k)->∀ s,o=some s->Go.Proofs.YtbocelianhcfmaaGreatDoor.okXk (k+1) s:=by
 induction h with
 | nil=>intro _ _ _ _ _ s h; cases h
 | hit ht=>
  intro hl hh hk hb hv s h
  simp only [List.length_append,List.length_singleton,Nat.add_right_cancel_iff] at hl hk
  rw [Option.some.injEq] at h
  subst h
  obtain ⟨h1,h2⟩:=hb.last hl
  exact ht.okXk hp hpl (hh _ (by simp)).1 (hh _ (by simp)).2 hl.symm (fun d hd=>(hh d (List.mem_append_left _ hd)).2) (by simp only; omega) h2 (hv _ (by simp)) h1 fun l hl=>hv l (List.mem_append_left _ hl)
 | miss _ _ ih=>
  intro hl hh hk hb hv
  simp only [List.length_append,List.length_singleton,Nat.add_right_cancel_iff] at hl hk
  exact ih hl (fun d hd=>hh d (List.mem_append_left _ hd)) (by omega) (hb.last hl).1 fun l hl=>hv l (List.mem_append_left _ hl)
theorem OneR.okXk {p:List C} (hp:∀ cl∈p,sV cl) (hpl:p.length<=1000000) {k:Nat} {s s':Se} {e:Int} (h:OneR p s s' e) (hs:kT p.length s) (hx:okXk k s):okXk (k+1) s'/\(e=-2->s'=s):=by
 have hgo:=hs.st.goals
 have hgm:=hx.goals
 cases h with
 | big=>exact ⟨hx.up,fun _=>rfl⟩
 | stuck=>exact ⟨hx.up,fun _=>rfl⟩
 | fail=>exact ⟨hx.up,fun _=>rfl⟩
 | err=>exact ⟨hx.up,fun _=>rfl⟩
 | @took g rest u _ hg hu hsm _ _ ht=>
  rw [hg] at hgo hgm
  have hou:=jX hs.st.good hu (hgo _ (List.mem_cons_self ..)).1
  have hw:=j5 hsm hou
  have hum:okM u:=Res.okM hx.tab hu (hgm _ (List.mem_cons_self ..))
  have hng:=hx.ng
  rw [hg,List.length_cons] at hng
  refine ⟨ht.okXk hp hpl ⟨hs.st.good,⟨hou,by simp only; omega⟩,fun x hx=>hgo x (List.mem_cons_of_mem _ hx)⟩ ⟨hx.nb,by simp only; omega,hx.tab,hum,fun x hx=>hgm x (List.mem_cons_of_mem _ hx),hx.pos⟩ hs.len hx.chs hx.nc hx.steps hx.ns hx.saved hx.nv,fun e=>(by cases e)⟩
 | @solved g rest u st hg hu hsm _ hb hB=>
  rw [hg] at hgo hgm
  have hou:=jX hs.st.good hu (hgo _ (List.mem_cons_self ..)).1
  have hw:=j5 hsm hou
  have hum:okM u:=Res.okM hx.tab hu (hgm _ (List.mem_cons_self ..))
  have hgd:=hB.good hs.st.good hb ⟨hou,by omega⟩
  have hl:=hgd.len
  have hng:=hx.ng
  rw [hg,List.length_cons] at hng
  have hnb:=hx.nb
  have hns:=hx.ns
  have hpos:=hx.pos
  refine ⟨⟨by simp only; omega,by simp only; omega,by have:=hx.nc; simp only; omega,by simp only [List.length_append,List.length_singleton]; omega,hB.okM hx.tab hum,fun x h=>hgm x (List.mem_cons_of_mem _ h),fun c hc=>(hx.chs c hc).up,?_,hx.saved,fun l hl=>by have:=hx.nv l hl; omega,by simp only; omega⟩,fun e=>(by cases e)⟩
  intro x h
  simp only at h ⊢
  rw [hl]
  rcases List.mem_append.1 h with h|h
  ·exact hx.steps x h
  ·rw [List.mem_singleton] at h
   subst h
   exact ⟨⟨hou,by simp only; omega⟩,by simp,by simp,by simp,by simp⟩
theorem yj {t:T} (hm:okM t):okXk 0 (fl t):=by
 refine ⟨by simp [fl],by simp [fl],by simp [fl],by simp [fl],tabM.none 26,?_,fun c hc=>(by cases hc),fun x hx=>(by cases hx),fun i h=>(by simp [fl] at h),fun l hl=>(by cases hl),by simp [fl]⟩
 intro g hg
 simp only [fl,List.mem_singleton] at hg
 subst hg
 exact o0 _ _ hm
theorem Srch.okXk {p:List C} (hp:∀ cl∈p,sV cl) (hpl:p.length<=1000000) {n:Nat} {s:Se} {o:Option Se} (h:Srch p n s o):∀ k,kT p.length s->Go.Proofs.YtbocelianhcfmaaGreatDoor.okXk k s->∀ t,o=some t->Go.Proofs.YtbocelianhcfmaaGreatDoor.okXk (k+n) t:=by
 induction h with
 | @done n s hg=>
  intro k h1 h2 t h
  rw [Option.some.injEq] at h
  subst h
  induction n with
  | zero=>exact h2
  | succ n ih=>exact ih.up
 | out=>intro _ _ _ t h; cases h
 | halt=>intro _ _ _ t h; cases h
 | stop=>intro _ _ _ t h; cases h
 | @step n _ _ _ hg h1 _ ih=>
  intro k hs hx t h
  have:=ih (k+1) (h1.ok (fun cl hc=>(hp cl hc).cf) hs) (h1.okXk hp hpl hs hx).1 t h
  rwa [show k+(n+1)=k+1+n by omega]
 | @back n _ s' _ _ hg h1 h2 _ ih=>
  intro k hs hx t h
  have hs':=h1.ok (fun cl hc=>(hp cl hc).cf) hs
  have e:=(h1.okXk hp hpl hs hx).2 rfl
  subst e
  have:=ih (k+1) (h2.ok (fun cl hc=>(hp cl hc).cf) hs.len.symm hs.st.chs hs.left _ rfl) (h2.okXk hp hpl hs.len.symm (fun c hc=>⟨hs.st.chs c hc,hx.chs c hc⟩) hx.nc hx.saved hx.nv _ rfl) t h
  rwa [show k+(n+1)=k+1+n by omega]
end
end Go.Proofs.YtbocelianhcfmaaGreatDoor
