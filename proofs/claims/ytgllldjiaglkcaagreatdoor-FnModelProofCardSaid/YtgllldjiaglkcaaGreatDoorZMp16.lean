/- Proofs that are valid, on both sides. -/
import Derived.Test.YtgllldjiaglkcaaGreatDoorZMp15
import Derived.Test.YtgllldjiaglkcaaGreatDoorZMp1
import Derived.Test.YtgllldjiaglkcaaGreatDoorZMp10
import Derived.Test.YtgllldjiaglkcaaGreatDoorZMp4
import Derived.Test.YtgllldjiaglkcaaGreatDoorZMp5
namespace Go.Proofs.YtgllldjiaglkcaaGreatDoor
section
open Go Go.RowKit
section
attribute [local irreducible] Run CondV az aO
theorem xS {σ:Type} {f:FuncId} {fn:Func} {cap:List Value} {S:ae} {It:σ->List Item} {ok:σ->Prop} {step:σ->PF->Bool × σ} {xs:List PF} {v:Value}
  (hcb:Cb Tryz.prog f fn cap S It ok step (fun v x=>∃ cs,v=.agg cs.toArray/\RdF S cs x) xs) (h:RdSl S 6 (RdF S) v xs) {st:σ} (hok:ok st) :
  Tri Tryz.prog vb [v,fv f cap] (It st) S fun r I' S'=>r=.int .i64 (co step st xs 0).1/\I'=It (co step st xs 0).2/\S'=S:=by
 intro w hI
 have hlen:=h.le
 simp only [maxLen] at hlen
 refine kV.2 ?_
 dsimp only[kV,aY]
 refine aF h ic ?_
 refine ⟨fun i w'=>∃ (k:Nat) (st':σ),k<=xs.length/\i=.int .i64 k/\ok st'/\co step st' (xs.drop k) k=co step st xs 0/\Inv w (bE (It st)) (It st') S w',fun i _=>xs.length - (intOf i).toNat,
  ⟨0,st,be _,rfl,hok,rfl,hI⟩,?_⟩
 intro t8 _ _ _ _ _ _ _ _ _ _ _ _ w'
 rintro ⟨k,st',hk,rfl,hok',hrel,hI⟩
 refine bH ?_
 refine aL (fun hki=>?_) (fun hki=>?_)
 ·have hk':k<xs.length:=by omega
  have hm:=bz hk'
  have hstep:co step st' (xs.drop k) k=if (step st' xs[k]).1 then ((k:Int),(step st' xs[k]).2) else co step (step st' xs[k]).2 (xs.drop (k+1)) (k+1):=by
   rw [cU hk',co]
  refine cL hI h ic cM hk' (fun _ _=>RdF.length) fun cs hcs=>?_
  refine Run.callV (A:=[]) (args:=[.agg cs.toArray]) hcb.hf hcb.hn (by simpa using hI) (hcb.call st' _ _ hm hok' ⟨cs,rfl,hcs⟩) fun v' I' S' w'=>?_
  rintro ⟨rfl,rfl,rfl⟩ _ hI
  refine aw (fun hb=>?_) (fun hb=>?_)
  ·rw [ai hb] at hstep
   refine ⟨_,_,_,rfl,by simpa using hI,Ext.refl _ _ _,?_,?_,rfl⟩
   ·rw [<- hrel,hstep]
   ·rw [<- hrel,hstep]
  ·refine bp (by omega) ?_
   rw [hb] at hstep
   refine ⟨⟨k+1,_,hk',rfl,hcb.keep st' _ hm hok' hb,?_,by simpa using hI⟩,by simp [intOf]; omega⟩
   rw [<- hrel,hstep]
   rfl
 ·have:k=xs.length:=by omega
  subst this
  rw [dO,co] at hrel
  exact ⟨_,_,_,rfl,hI,Ext.refl _ _ _,by rw [<- hrel],by rw [<- hrel],rfl⟩
theorem sr {σ:Type} {f:FuncId} {fn:Func} {cap:List Value} {S:ae} {It:σ->List Item} {ok:σ->Prop} {step:σ->PF->Bool × σ} {xs:List PF} {v:Value}
  (hcb:Cb Tryz.prog f fn cap S It ok step (fun v x=>∃ cs,v=.agg cs.toArray/\RdF S cs x) xs) (h:RdSl S 6 (RdF S) v xs) {st:σ} (hok:ok st) :
  Tri Tryz.prog rh [v,fv f cap] (It st) S fun r I' S'=>r=.bool (lX step st xs).1/\I'=It (lX step st xs).2/\S'=S:=by
 intro w hI
 refine jm.2 ?_
 dsimp only[jm,aY]
 refine Run.call (A:=[]) uc th (by simpa using hI) (xS hcb h hok) fun v' I' S' w'=>?_
 rintro ⟨rfl,rfl,rfl⟩ _ hI
 refine jS ?_
 have he:=jc step xs st 0
 exact ⟨_,_,_,rfl,by simpa using hI,Ext.refl _ _ _,by rw [he.1],by rw [he.2],rfl⟩
end
def Ll (g:T) (c:Int) (l:Nat):Bool:=eq g && ((decide (-1<=c) && decide (c<=19)) && decide (l<=6))
mutual
def gI:PF->Int->Int->Bool × Int
 | .mk g c ks,deep,n=>if 60<n+1 ∨ 20<deep then (false,n+1) else if Ll g c ks.length=true then i9 ks (deep+1) (n+1) else (false,n+1)
def i9:List PF->Int->Int->Bool × Int
 | [],_,n=>(true,n)
 | t::ts,deep,n=>if (gI t deep n).1 then i9 ts deep (gI t deep n).2 else (false,(gI t deep n).2)
end
mutual
def E3:PF->Int->Bool
 | .mk g c ks,d=>decide (1<=d) && (Ll g c ks.length && HP ks (d - 1))
def HP:List PF->Int->Bool
 | [],_=>true
 | t::ts,d=>E3 t d && HP ts d
end
mutual
def zq:PF->Int
 | .mk _ _ ks=>1+lA ks
def lA:List PF->Int
 | []=>0
 | t::ts=>zq t+lA ts
end
def xq (x:PF):Bool:=E3 x 20 && decide (zq x<=60)
mutual
theorem Oi:∀ t:PF,1<=zq t
 | .mk _ _ ks=>by
  have:=uY ks
  rw [zq]; omega
theorem uY:∀ ts:List PF,0<=lA ts
 | []=>Af _
 | t::ts=>by
  have h1:=Oi t
  have h2:=uY ts
  rw [lA]; omega
end
mutual
theorem Hh:∀ (t:PF) (deep n:Int),(gI t deep n).1=(E3 t (21 - deep) && decide (n+zq t<=60))/\((gI t deep n).1=true->(gI t deep n).2=n+zq t)
 | .mk g c ks,deep,n=>by
  have hl:=uY ks
  rw [gI,E3,zq]
  by_cases h1:60<n+1 ∨ 20<deep
  ·rw [ai h1]
   refine ⟨?_,fun h=>by cases h⟩
   rcases h1 with h1|h1
   ·rw [aP (show ¬ (n+(1+lA ks)<=60) by omega),kY]
   ·rw [aP (show ¬ (1<=21 - deep) by omega)]; rfl
  ·rw [ah h1,aI (show 1<=21 - deep by omega),dg]
   cases hn:Ll g c ks.length with
   | false=>exact ⟨rfl,fun h=>by cases h⟩
   | true=>
    rw [ai rfl,dg]
    have:=KV ks (deep+1) (n+1)
    rw [show 21 - (deep+1)=21 - deep - 1 by omega] at this
    rw [show n+(1+lA ks)=n+1+lA ks by omega]
    refine ⟨?_,this.2⟩
    rw [this.1]
    cases ks with
    | nil=>rw [show lA []=0 from rfl,aI (show n+1+0<=60 by omega)]; rfl
    | cons t ts=>simp
theorem KV:∀ (ts:List PF) (deep n:Int),(i9 ts deep n).1=(HP ts (21 - deep) && (ts.isEmpty || decide (n+lA ts<=60)))/\((i9 ts deep n).1=true->(i9 ts deep n).2=n+lA ts)
 | [],deep,n=>by simp [i9,HP,lA]
 | t::ts,deep,n=>by
  have ht:=Hh t deep n
  have hp:=uY ts
  rw [i9,HP,lA,List.isEmpty_cons,fV]
  cases h1:(gI t deep n).1 with
  | false=>
   rw [h1] at ht
   have h2:=ht.1
   refine ⟨?_,fun h=>by cases h⟩
   simp only [JS,if_false]
   cases hs:E3 t (21 - deep) with
   | false=>rfl
   | true=>
    rw [hs,dg] at h2
    have:¬ (n+zq t<=60):=of_decide_eq_false h2.symm
    rw [aP (show ¬ (n+(zq t+lA ts)<=60) by omega),kY]
  | true=>
   rw [h1] at ht
   have h2:=ht.1
   have h3:=ht.2 rfl
   simp only [if_true]
   rw [h3]
   have hs:E3 t (21 - deep)=true/\n+zq t<=60:=by
    have:=h2.symm
    simpa using this
   have hl:=KV ts deep (n+zq t)
   rw [show n+(zq t+lA ts)=n+zq t+lA ts by omega]
   refine ⟨?_,hl.2⟩
   rw [hl.1,hs.1,dg]
   cases ts with
   | nil=>rw [show lA []=0 from rfl,aI (show n+zq t+0<=60 by omega)]; rfl
   | cons u us=>simp
end
theorem Qi (t:PF):(gI t 1 0).1=xq t:=by
 rw [(Hh t 1 0).1,xq]
 simp
theorem NQ:∀ (t:PF) (deep n:Int),n<=60->(gI t deep n).1=true->n<(gI t deep n).2/\(gI t deep n).2<=60:=by
 intro t deep n hn h
 have:=Hh t deep n
 rw [this.2 h]
 have h1:=this.1
 rw [h] at h1
 have h2:=h1.symm
 simp at h2
 have:=Oi t
 omega
theorem H7 (deep:Int):∀ (ks:List PF) (n:Int),lX (fun n t=>(!(gI t deep n).1,(gI t deep n).2)) n ks=(!(i9 ks deep n).1,(i9 ks deep n).2)
 | [],n=>by simp [lX,i9]
 | t::ts,n=>by
  by_cases h:(gI t deep n).1=true
  ·simp [lX,i9,h,H7 deep ts]
  ·simp [lX,i9,h]
section
attribute [local irreducible] Run CondV az aO
theorem Ej:∀ (t:PF) (S:ae) (cs:List Value) (deep n:Int) (bc:Nat),RdF S cs t->0<=deep->deep<=21->0<=n->n<=60->
  Tri Tryz.prog IR [.agg cs.toArray,.int .i64 deep,.pointer (some ⟨bc,0,none⟩)] [fU bc n] S (pH bc S (gI t deep n)):=by
 refine PF.ind fun g c ks ih S cs deep n bc h hd0 hd1 hc0 hc1=>?_
 intro w hI
 obtain ⟨kv,kf,rfl,hg,hc,hks⟩:=RdF.iff.1 h
 simp only [PF.goal,PF.kids,PF.clause] at hg hc hks ⊢
 have hend:∀ {L:List Item} {w':World} {v:Value} (r:Bool × Int),Inv w (bE [fU bc n]) (fU bc r.2::L) S w'->v=.bool r.1->r=gI (.mk g c ks) deep n->
   ∃ v' I' S',Ending.returned v=.returned v'/\Inv w (bE [fU bc n]) I' S' w'/\Ext w.heap.size (bE [fU bc n]) S S'/\pH bc S (gI (.mk g c ks) deep n) v' I' S':=by
  intro L w' v r h1 h2 h3
  subst h3
  exact ⟨_,_,_,rfl,h1.pick [true],Ext.refl _ _ _,h2,rfl,rfl⟩
 refine sy.2 ?_
 dsimp only[sy,dN]
 refine bq hI fun b3 w' hI=>?_
 refine bq hI fun b4 w' hI=>?_
 refine bq hI fun b5 w' hI=>?_
 refine aN hI 3 uS rfl rfl ?_
 refine aB ?_
 refine aN hI 0 aG rfl rfl ?_
 refine bp (by omega) ?_
 refine aB ?_
 refine cW hI 0 (n:=1) rfl (by rw [aG]; rfl) rfl (jw rfl) (by simp [Value.cells]; rfl) fun w' hI=>?_
 have hI:Inv w (bE [fU bc n]) [fU bc (n+1),.blk b3 (.cells #[.int .i64 g.kind,.int .i64 g.n,.string g.name,kv,.int .i64 c,kf] aK),.blk b4 (.cells #[.int .i64 deep] bV),.blk b5 (.cells #[.pointer (some ⟨bc,0,none⟩)] iB)] S w':=hI
 have hkl:decide ((6:Int)<(ks.length:Int))=!decide (ks.length<=6):=by
  rw [<- decide_not,fg]; omega
 refine ⟨fun t w'=>t=.bool (decide (60<n+1 ∨ 20<deep) || !Ll g c ks.length)/\Inv w (bE [fU bc n]) [fU bc (n+1),.blk b3 (.cells #[.int .i64 g.kind,.int .i64 g.n,.string g.name,kv,.int .i64 c,kf] aK),.blk b4 (.cells #[.int .i64 deep] bV),.blk b5 (.cells #[.pointer (some ⟨bc,0,none⟩)] iB)] S w',?_,?_⟩
 ·refine aN hI 3 uS rfl rfl ?_
  refine aB ?_
  refine aN hI 0 aG rfl rfl ?_
  refine dA ?_
  cases h1:decide ((60:Int)<n+1)
  ·have h1:=of_decide_eq_false h1
   refine rpG ?_
   refine aN hI 2 aG rfl rfl ?_
   refine dA ?_
   cases h2:decide ((20:Int)<deep)
   ·have h2:=of_decide_eq_false h2
    rw [aP (fun h=>h.elim h1 h2),fV,Ll]
    refine rpG ?_
    refine au ib ?_
    refine di hI 1 [_,_,_,_] ad rfl rfl KL ?_
    refine Run.callPure mX mL hI (j9 hg) fun w' hI=>?_
    refine bQ ?_
    cases h3:eq g
    ·refine rpG ?_
     exact ⟨rfl,hI⟩
    refine rpG ?_
    refine af hI 1 rfl jl aG rfl ?_
    refine Run.callPure fu fD hI (eR _ _ _ S) fun w' hI=>?_
    refine bQ ?_
    cases h4:(decide (-1<=c) && decide (c<=19))
    ·refine rpG ?_
     exact ⟨rfl,hI⟩
    refine rpG ?_
    refine af hI 1 rfl fH g8 rfl ?_
    refine aF hks ic ?_
    refine dA ?_
    rw [hkl]
    refine rpG ?_
    exact ⟨rfl,hI⟩
   ·refine rpG ?_
    rw [aI (.inr (of_decide_eq_true h2)),s6]
    exact ⟨rfl,hI⟩
  ·refine rpG ?_
   rw [aI (.inl (of_decide_eq_true h1)),s6]
   exact ⟨rfl,hI⟩
 intro q _ _ _ _ _ _ _ _ _ _ _ _ _ _ _ _ _ _ _ _ _ _ _ _ _ w'
 rintro ⟨rfl,hI⟩
 refine aw (fun hb=>?_) (fun hb=>?_)
 ·refine hend (false,n+1) hI rfl ?_
  rw [gI]
  by_cases h1:60<n+1 ∨ 20<deep
  ·rw [ai h1]
  ·rw [aP h1,fV,jj] at hb
   rw [ah h1,hb]
   rfl
 ·rw [KU,rK] at hb
  have hsc:gI (.mk g c ks) deep n=i9 ks (deep+1) (n+1):=by
   rw [gI,ah (of_decide_eq_false hb.1),ai hb.2]
  have hn60:=of_decide_eq_false hb.1
  refine af hI 1 rfl fH g8 rfl ?_
  refine ia ?_
  have hcb:Cb Tryz.prog Eg Tryz.f215 [.pointer (some ⟨b4,0,none⟩),.pointer (some ⟨b5,0,none⟩)] S
    (fun c:Int=>[fU bc c,.blk b4 (.cells #[.int .i64 deep] bV),.blk b5 (.cells #[.pointer (some ⟨bc,0,none⟩)] iB)]) (fun c=>0<=c/\c<=60)
    (fun c t=>(!(gI t (deep+1) c).1,(gI t (deep+1) c).2)) (fun v x=>∃ cs,v=.agg cs.toArray/\RdF S cs x) ks:=by
   refine ⟨BO,Ce,fun st x _ hst hf=>?_,fun st x v hx hst=>?_⟩
   ·have:=NQ x (deep+1) st hst.2 (by simpa using hf)
    omega
   ·rintro ⟨cs,rfl,hcs⟩ w1 hI
    have hl:=hcs.length
    refine p7.2 ?_
    dsimp only[p7,dN]
    refine bq hI fun b w' hI=>?_
    refine av hI 3 cM rfl (by simpa [Value.cells] using hl) ?_
    refine aN hI 1 aG rfl rfl ?_
    refine bp (by omega) ?_
    refine aN hI 2 uS rfl rfl ?_
    have hI:=hI.perm (M:=[.blk b4 (.cells #[.int .i64 deep] bV),.blk b5 (.cells #[.pointer (some ⟨bc,0,none⟩)] iB),.blk b (.cells (Value.agg cs.toArray).cells aK)]++[fU bc st])
     (cu (l₁:=[_,_,_]) (l₂:=[fU bc st]))
    refine Run.call uJ tE hI (ih x hx S cs (deep+1) st bc hcs (by omega) (by omega) hst.1 hst.2) fun v' I' S' w'=>?_
    rintro ⟨rfl,rfl,rfl⟩ _ hI
    refine bQ ?_
    have hI:=(hI.perm (M:=[fU bc (gI x (deep+1) st).2]++[.blk b4 (.cells #[.int .i64 deep] bV),.blk b5 (.cells #[.pointer (some ⟨bc,0,none⟩)] iB),.blk b (.cells (Value.agg cs.toArray).cells aK)])
     cu).pick [true,true,true,false]
    exact ⟨_,_,_,rfl,hI,Ext.refl _ _ _,rfl,rfl,rfl⟩
  have hI:=hI.perm (M:=[.blk b3 (.cells #[.int .i64 g.kind,.int .i64 g.n,.string g.name,kv,.int .i64 c,kf] aK)]++[fU bc (n+1),.blk b4 (.cells #[.int .i64 deep] bV),.blk b5 (.cells #[.pointer (some ⟨bc,0,none⟩)] iB)]) (List.Perm.swap _ _ _)
  refine Run.call py pm hI (sr hcb hks ⟨by omega,by omega⟩) fun v' I' S' w'=>?_
  rintro ⟨rfl,rfl,rfl⟩ _ hI
  refine bQ ?_
  rw [H7] at hI ⊢
  have hI:=hI.perm (M:=[fU bc (i9 ks (deep+1) (n+1)).2,.blk b3 (.cells #[.int .i64 g.kind,.int .i64 g.n,.string g.name,kv,.int .i64 c,kf] aK),.blk b4 (.cells #[.int .i64 deep] bV),.blk b5 (.cells #[.pointer (some ⟨bc,0,none⟩)] iB)]) (List.Perm.swap _ _ _)
  exact hend (i9 ks (deep+1) (n+1)) hI (by simp) hsc.symm
theorem z6 {t:PF} {S:ae} {cs:List Value} (h:RdF S cs t):Pure Tryz.prog Gu [.agg cs.toArray] S (.bool (xq t)):=by
 intro w hI
 have hl:=h.length
 refine r6.2 ?_
 dsimp only[r6,aM]
 refine bq hI fun b1 w' hI=>?_
 refine aT hI Ri fun b2 w' hI=>?_
 refine cW hI 1 (n:=1) rfl (by rw [aG]; rfl) rfl (jw rfl) (by simp [Value.cells]; rfl) fun w' hI=>?_
 refine av hI 0 cM rfl (by simpa [Value.cells] using hl) ?_
 refine Run.call (A:=[_]) (I:=[fU b2 0]) uJ tE hI (Ej t S cs 1 0 b2 h (by omega) (by omega) (by omega) (by omega)) fun v' I' S' w'=>?_
 rintro ⟨rfl,rfl,rfl⟩ _ hI
 exact done hI (by rw [Qi])
end
end
section
open Go Go.RowKit
section
variable {S:ae} {ys:List Nat} {v:Value}
attribute [local irreducible] Run CondV az aO
end
end
section
open Go Go.RowKit

section
attribute [local irreducible] Run CondV az aO
end
end
section
open Go Go.RowKit
mutual
def sbT (σ:Int->T):T->T
 | .mk k n s ks=>if k=1 then σ n else .mk k n s (sbL σ ks)
def sbL (σ:Int->T):List T->List T
 | []=>[]
 | t::ts=>sbT σ t::sbL σ ts
end
def idS (n:Int):T:=.mk 1 n emptyB []
def Agk (σ:Int->T) (st:al):Prop:=∀ (i:Nat) (t:T),st[i]?=some (some t)->σ i=t
def Gek (st st':al):Prop:=st'.length=st.length/\∀ (i:Nat) (t:T),st[i]?=some (some t)->st'[i]?=some (some t)
theorem Gek.refl (st:al):Gek st st:=⟨rfl,fun _ _ h=>h⟩
theorem Gek.trans {a b c:al} (h:Gek a b) (h':Gek b c):Gek a c:=⟨h'.1.trans h.1,fun i t hi=>h'.2 i t (h.2 i t hi)⟩
theorem Agk.less {σ:Int->T} {a b:al} (h:Agk σ b) (hg:Gek a b):Agk σ a:=fun i t hi=>h i t (hg.2 i t hi)
end
section
open Go Go.RowKit
section
variable {S:ae} {ys zs:List Nat} {v u:Value}
attribute [local irreducible] Run CondV az aO
theorem RdC.cells {S:ae} {cs:List Value} {c:C} (h:RdC S cs c):∃ kv kb,cs=[.int .i64 c.head.kind,.int .i64 c.head.n,.string c.head.name,kv,kb]/\RdT S [.int .i64 c.head.kind,.int .i64 c.head.n,.string c.head.name,kv] c.head/\RdSl S 4 (RdT S) kb c.body:=by
 obtain ⟨hd,kb,rfl,h1,h2⟩:=h
 have h1':=h1
 obtain ⟨kv,rfl,_⟩:=RdT.iff.1 h1
 exact ⟨kv,kb,rfl,h1',h2⟩
end
end
section
open Go Go.RowKit
mutual
theorem Ky:∀ (t:T) (d:Int),dV t d=true->okN t
 | .mk k n s ks,d,h=>by
  rw [dV] at h
  split at h
  ·cases h
  rw [bu] at h
  obtain ⟨ho,hk⟩:=h
  rw [okN]
  refine ⟨fun e=>?_,Fy ks _ hk⟩
  subst e
  have ho2:ed (.mk 2 n s ks)=(decide (-999<=n) && (decide (n<=999) && (decide (s=emptyB) && decide (ks.length=0)))):=by
   rw [ed]; exact (ah (show ¬ (2:Int)=1 by decide)).trans (ai rfl)
  rw [ho2,bu,bu] at ho
  exact ⟨of_decide_eq_true ho.1,of_decide_eq_true ho.2.1⟩
theorem Fy:∀ (ts:List T) (d:Int),dJ ts d=true->EC ts
 | [],_,_=>by rw [EC]; trivial
 | t::ts,d,h=>by
  rw [dJ,bu] at h
  rw [EC]
  exact ⟨Ky t d h.1,Fy ts d h.2⟩
end
theorem UZ {t:T} (h:dt t=true):okN t:=Ky t 30 (jk h)
theorem qR {t:T} (h:dt t=true):wT t<=840:=by
 have ho:=io h
 have h1:=Td t ho
 rw [dt,bu] at h
 have h2:ew t<=120:=by simpa using h.2
 omega
theorem fw {g:T} (h:eq g=true):dt g=true:=by
 rw [eq,bu] at h; exact h.1
theorem US {g:T} (h:eq g=true):decide (g.kind=3)=true:=by
 rw [eq,bu,jR,jR] at h
 rcases h.2 with h|h|h
 ·rw [fS,bu] at h; exact h.1
 ·rw [cD,bu] at h; exact h.1
 ·rw [cI,bu] at h; exact h.1
def bltF (g:T) (f:Bool):Prop:=(cI g=false/\f=false) ∨ (cI g=true/\∃ code st',Blt abK g code st'/\f=Pq code st')
theorem bltF.ex {g:T} (h:dt g=true):∃ f,bltF g f:=by
 cases hb:cI g with
 | false=>exact ⟨false,.inl ⟨hb,rfl⟩⟩
 | true=>
  have:=qR h
  obtain ⟨c,st',hB⟩:=Blt.ex (u3 26) hb ⟨io h,by omega⟩
  exact ⟨_,.inr ⟨hb,c,st',hB,rfl⟩⟩
open Classical in
noncomputable def bltV (g:T):Bool:=if h:∃ f,bltF g f then h.choose else false
theorem Ts {g:T} (h:dt g=true):bltF g (bltV g):=by
 have he:=bltF.ex h
 rw [bltV,dif_pos he]
 exact he.choose_spec
def T7:List T->List PF->al->Bool
 | g::gs,x::xs,st=>!fS g && ((bt g x.goal st).1 && T7 gs xs (bt g x.goal st).2)
 | _,_,_=>true
noncomputable def nodeC (p:List C) (g:T) (c:Int) (ks:List PF):Bool:=if c<0 then decide (ks.length=0) && bltV g else match p[c.toNat]? with
 | none=>false
 | some q=>decide (ks.length=q.body.length) && ((bt q.head g st0).1 && T7 q.body ks (bt q.head g st0).2)
mutual
noncomputable def chkF (p:List C):PF->Bool
 | .mk g c ks=>nodeC p g c ks && chkFL p ks
noncomputable def chkFL (p:List C):List PF->Bool
 | []=>true
 | x::xs=>chkF p x && chkFL p xs
end
noncomputable def interL (p:List C):List T->List PF->al->Bool
 | g::gs,x::xs,st=>!fS g && ((bt g x.goal st).1 && (chkF p x && interL p gs xs (bt g x.goal st).2))
 | _,_,_=>true
theorem OB (p:List C):∀ (gs:List T) (xs:List PF) (st:al),gs.length=xs.length->interL p gs xs st=(T7 gs xs st && chkFL p xs)
 | [],[],_,_=>rfl
 | g::gs,x::xs,st,h=>by
  rw [interL,T7,chkFL,OB p gs xs _ (by simpa using h)]
  cases fS g <;> cases (bt g x.goal st).1 <;> cases chkF p x <;> simp
 | [],_::_,_,h=>by simp at h
 | _::_,[],_,h=>by simp at h
theorem Lj:∀ {ts:List PF} {d:Int},HP ts d=true->∀ x∈ts,E3 x d=true
 | t::ts,d,h,x,hx=>by
  rw [HP,bu] at h
  rcases bN.1 hx with rfl|hx
  ·exact h.1
  ·exact Lj h.2 x hx
theorem Kj {g:T} {c:Int} {ks:List PF} {d:Int} (h:E3 (.mk g c ks) d=true):eq g=true/\(-1<=c/\c<=19)/\∀ x∈ks,E3 x (d - 1)=true:=by
 rw [E3,bu,bu,Ll,bu,bu,bu,bk,bk,bk,bk] at h
 obtain ⟨_,⟨h1,⟨h2,h3⟩,_⟩,h4⟩:=h
 exact ⟨h1,⟨h2,h3⟩,Lj h4⟩
theorem PZ {p:List C} (h:de p=true) {c:C} (hc:c∈p):bK c=true:=by
 rw [de,bu,dE] at h
 exact h.2 c hc
theorem XZ {a b c d e f:Value}:∀ (j:Nat) (v:Value),([a,b,c,d]:List Value)[j]?=some v->([a,b,c,d,e,f]:List Value)[j]?=some v
 | 0,_,h|1,_,h|2,_,h|3,_,h=>h
 | j+4,_,h=>by simp at h
section
attribute [local irreducible] Run CondV az aO
end
end
section
open Go Go.RowKit
mutual
def okM:T->Prop
 | .mk k n s ks=>(k=2->-999<=n/\n<=999)/\(k≠3->s=emptyB)/\qk ks
def qk:List T->Prop
 | []=>True
 | t::ts=>okM t/\qk ts
end
theorem uw:∀ {ts:List T},qk ts->∀ t∈ts,okM t
 | t::ts,h,x,hx=>by
  rw [qk] at h
  rcases bN.1 hx with rfl|hx
  ·exact h.1
  ·exact uw h.2 x hx
theorem Tv:∀ {ts:List T},(∀ t∈ts,okM t)->qk ts
 | [],_=>by rw [qk]; trivial
 | t::ts,h=>by rw [qk]; exact ⟨h t (aS ..),Tv fun u hu=>h u (aV _ hu)⟩
theorem okM.kids {t:T} (h:okM t):qk t.kids:=by cases t; rw [okM] at h; exact h.2.2
mutual
theorem okM.okN:∀ {t:T},okM t->okN t
 | .mk k n s ks,h=>by
  rw [okM] at h
  rw [Go.Proofs.YtgllldjiaglkcaaGreatDoor.okN]
  exact ⟨h.1,Qa h.2.2⟩
theorem Qa:∀ {ts:List T},qk ts->EC ts
 | [],_=>by rw [EC]; trivial
 | t::ts,h=>by
  rw [qk] at h
  rw [EC]
  exact ⟨okM.okN h.1,Qa h.2⟩
end
mutual
theorem K9:∀ (t:T) (d:Int),dV t d=true->okM t
 | .mk k n s ks,d,h=>by
  rw [dV] at h
  split at h
  ·cases h
  rw [bu] at h
  obtain ⟨ho,hk⟩:=h
  rw [okM]
  have h2:k=2->(-999<=n/\n<=999)/\s=emptyB:=by
   intro e
   subst e
   have ho2:ed (.mk 2 n s ks)=(decide (-999<=n) && (decide (n<=999) && (decide (s=emptyB) && decide (ks.length=0)))):=by
    rw [ed]; exact (ah (show ¬ (2:Int)=1 by decide)).trans (ai rfl)
   rw [ho2,bu,bu,bu] at ho
   exact ⟨⟨of_decide_eq_true ho.1,of_decide_eq_true ho.2.1⟩,of_decide_eq_true ho.2.2.1⟩
  refine ⟨fun e=>(h2 e).1,fun e=>?_,Ic ks _ hk⟩
  by_cases e2:k=2
  ·exact (h2 e2).2
  ·have ho:(if k=1 then decide (0<=n) && (decide (n<=25) && (decide (s=emptyB) && decide (ks.length=0))) else if k=2 then decide (-999<=n) && (decide (n<=999) && (decide (s=emptyB) && decide (ks.length=0))) else if k=3 then decide (n=0) && (lH s && decide (ks.length<=4)) else false)=true:=ho
   rw [ah e2,ah e] at ho
   split at ho
   ·simp only [bu,bk] at ho
    exact ho.2.2.1
   ·cases ho
theorem Ic:∀ (ts:List T) (d:Int),dJ ts d=true->qk ts
 | [],_,_=>by rw [qk]; trivial
 | t::ts,d,h=>by
  rw [dJ,bu] at h
  rw [qk]
  exact ⟨K9 t d h.1,Ic ts d h.2⟩
end
theorem AW {t:T} (h:dt t=true):okM t:=K9 t 30 (jk h)
mutual
theorem pF (m:Int):∀ t:T,okM t->okM (dx m t)
 | .mk k n s ks,h=>by
  rw [okM] at h
  rw [dx,okM]
  refine ⟨fun e=>?_,h.2.1,FS m ks h.2.2⟩
  rw [ah (by omega)]
  exact h.1 e
theorem FS (m:Int):∀ ts:List T,qk ts->qk (gU m ts)
 | [],_=>by rw [gU,qk]; trivial
 | t::ts,h=>by
  rw [qk] at h
  rw [gU,qk]
  exact ⟨pF m t h.1,FS m ts h.2⟩
end
def tabM (st:al):Prop:=∀ t,some t∈st->okM t
theorem tabM.set {st:al} (h:tabM st) {n:Nat} {t:T} (ht:okM t):tabM (st.set n (some t)):=by
 intro u hu
 rcases sC hu with hu|hu
 ·exact h u hu
 ·rw [bg] at hu
  subst hu
  exact ht
theorem tabM.look {st:al} (h:tabM st) {t u:T} (hl:look st t=some u):okM u:=h u (cz (dr.1 hl).2)
theorem tabM.walk {st:al} (h:tabM st) {t v:T} (hw:dF st t v) (ht:okM t):okM v:=by
 induction hw with
 | stop=>exact ht
 | step hl _ ih=>exact ih (h.look hl)
theorem tabM.grow {st:al} (h:tabM st) (k:Nat):tabM (st++List.replicate k none):=by
 intro t ht
 rcases bO.1 ht with ht|ht
 ·exact h t ht
 ·have:=KN ht
  cases this
theorem tabM.none (k:Nat):tabM (List.replicate k none):=by
 intro t ht
 have:=KN ht
 cases this
def Z2:Job->Prop
 | .one a b=>okM a/\okM b
 | .list xs ys=>(∀ a∈xs,okM a)/\∀ b∈ys,okM b
theorem Uni.okM {st st':al} {j:Job} {r:Bool} (hu:Uni st j r st'):tabM st->Z2 j->tabM st':=by
 induction hu with
 | same=>exact fun h _=>h
 | occA=>exact fun h _=>h
 | occB=>exact fun h _=>h
 | clash=>exact fun h _=>h
 | nil=>exact fun h _=>h
 | bindA ha hb _ _ _=>exact fun h hj=>h.set (h.walk hb hj.2)
 | bindB ha hb _ _ _=>exact fun h hj=>h.set (h.walk ha hj.1)
 | kids ha hb _ _ _ _ ih=>exact fun h hj=>ih h ⟨uw (h.walk ha hj.1).kids,uw (h.walk hb hj.2).kids⟩
 | stop _ ih=>exact fun h hj=>ih h ⟨hj.1 _ (aS ..),hj.2 _ (aS ..)⟩
 | go _ _ ih1 ih2=>
  exact fun h hj=>ih2 (ih1 h ⟨hj.1 _ (aS ..),hj.2 _ (aS ..)⟩) ⟨fun a ha=>hj.1 a (aV _ ha),fun b hb=>hj.2 b (aV _ hb)⟩
theorem Res.okM {st:al} (hs:tabM st) {j:Vm} (h:Res st j):match j with
  | .one t u=>okM t->okM u
  | .list ts us=>(∀ t∈ts,okM t)->∀ u∈us,okM u:=by
 induction h with
 | @one t v us hw _ ih=>
  intro ht
  have hv:=hs.walk hw ht
  have hk:=ih (uw hv.kids)
  cases v
  rw [Go.Proofs.YtgllldjiaglkcaaGreatDoor.okM] at hv ⊢
  exact ⟨hv.1,hv.2.1,Tv hk⟩
 | nil=>intro _ u hu; cases hu
 | cons _ _ ih1 ih2=>
  intro ht u hu
  rcases bN.1 hu with rfl|hu
  ·exact ih1 (ht _ (aS ..))
  ·exact ih2 (fun t h=>ht t (aV _ h)) u hu
theorem okM.kd {g:T} (h:okM g) (i:Nat):okM (kd g i):=by
 rw [Go.Proofs.YtgllldjiaglkcaaGreatDoor.kd,Tt]
 cases e:g.kids[i]? with
 | none=>
  simp only [Option.getD_none]
  rw [zT,Go.Proofs.YtgllldjiaglkcaaGreatDoor.okM,qk]
  exact ⟨fun e=>(by cases e),fun _=>rfl,trivial⟩
 | some u=>exact uw h.kids u (cz e)
theorem YO {n:Int} (h:Sm n):okM (Pb n):=by
 rw [Pb,okM,qk]
 exact ⟨fun _=>h,fun _=>rfl,trivial⟩
def abr:BJ->Prop
 | .done _=>True
 | .uni a b=>Z2 (.one a b)
 | .not a b=>Z2 (.one a b)
theorem ZZ {g:T} (h:okM g):abr (i6 g):=by
 unfold i6
 split
 ·trivial
 split
 ·trivial
 split
 ·exact ⟨h.kd _,h.kd _⟩
 split
 ·exact ⟨h.kd _,h.kd _⟩
 split
 ·trivial
 split
 ·split
  ·trivial
  ·exact ⟨h.kd _,YO (yW _ (h.kd _).okN)⟩
 split
 ·unfold MN
  split
  ·trivial
  split
  ·trivial
  split
  ·trivial
  ·exact ⟨h.kd _,(h.kd _).kd _⟩
 split
 ·trivial
 ·trivial
theorem Blt.okM {st st':al} {g:T} {c:Int} (hs:tabM st) (hg:okM g) (h:Blt st g c st'):tabM st':=by
 have hj:=ZZ hg
 unfold Blt at h
 match hb:i6 g,h,hj with
 | .done c,h,_=>exact h.2 ▸ hs
 | .uni a b,⟨r,hu,_⟩,hj=>exact hu.okM hs hj
 | .not a b,h,_=>exact h.1 ▸ hs
end
section
open Go Go.RowKit
structure X1 (cl:C):Prop where
 cf:zI cl
 hd:okM cl.head
 bd:∀ t∈cl.body,okM t
 fr:tZ cl<=26
 ln:cl.body.length<=6
 w:wC cl<=1048576
 vs:∀ x∈ek (cl.head::cl.body) [],0<=x/\x<1000000
mutual
theorem Xg {M N:Nat}:∀ t:T,okU M t->(∀ m∈vT t,m<N)->okU N t
 | .mk k n s ks,h,hv=>by
  rw [okU] at h ⊢
  rw [vT] at hv
  refine ⟨h.1,fun e=>?_,?_,h.2.2.2⟩
  ·obtain ⟨q1,q2,q3⟩:=h.2.1 e
   have:=hv n.toNat (by rw [ai e]; exact cd.2 rfl)
   exact ⟨q1,by omega,q3⟩
  ·by_cases e:k=1
   ·rw [(h.2.1 e).2.2.2,dw]; trivial
   ·rw [ah e] at hv
    exact Co ks h.2.2.1 hv
theorem Co {M N:Nat}:∀ ts:List T,dw M ts->(∀ m∈vTL ts,m<N)->dw N ts
 | [],_,_=>by rw [dw]; trivial
 | t::ts,h,hv=>by
  rw [dw] at h ⊢
  rw [vTL] at hv
  exact ⟨Xg t h.1 fun m hm=>hv m (dy _ hm),Co ts h.2 fun m hm=>hv m (iA _ hm)⟩
end
theorem Po {cl:C} (h:bK cl=true):X1 cl:=by
 obtain ⟨h1,h2,_⟩:=gr h
 have hU:dw 26 (cl.head::cl.body):=by rw [dw]; exact ⟨h1,qN h2⟩
 have hmem:=xb (cl.head::cl.body) [] hU
 have hb:=h
 rw [bK] at hb
 simp only [bu,bk,dE] at hb
 obtain ⟨hl,hgs,hvh,_⟩:=hb
 have hlt:∀ m∈vTL (cl.head::cl.body),m<26:=Ra _ hU
 have hfr:∀ m∈vTL (cl.head::cl.body),m<(tZ cl).toNat:=by
  intro m hm
  have:=(Lh (ek (cl.head::cl.body) []) 0).2 m ((hmem m).2 (.inr ⟨m,hm,rfl⟩))
  rw [tZ]
  omega
 have hN:=Co _ hU hfr
 rw [dw] at hN
 have hwh:=qR hvh
 have hwb:∀ t∈cl.body,wT t<=840:=fun t ht=>qR (fw (hgs t ht))
 have hvs:∀ x∈ek (cl.head::cl.body) [],0<=x/\x<26:=by
  intro x hx
  rcases (hmem x).1 hx with hx|⟨m,hm,rfl⟩
  ·cases hx
  ·have:=hlt m hm
   omega
 have hwl:∀ ts:List T,(∀ t∈ts,wT t<=840)->wL ts<=841 * ts.length:=by
  intro ts
  induction ts with
  | nil=>intro _; simp [wL]
  | cons t ts ih=>
   intro hh
   have a:=hh t (aS ..)
   have b:=ih fun u hu=>hh u (aV _ hu)
   simp only [wL,bw]
   omega
 have:=hwl _ hwb
 refine ⟨⟨⟨hN.1,by omega⟩,fun t ht=>⟨kP hN.2 t ht,by have:=hwb t ht; omega⟩⟩,AW hvh,fun t ht=>AW (fw (hgs t ht)),?_,hl,?_,fun x hx=>⟨(hvs x hx).1,by have:=(hvs x hx).2; omega⟩⟩
 ·exact Kz 26 _ 0 (by omega) fun x hx=>(hvs x hx).2
 ·unfold wC; omega
structure okRk (k:Nat) (c:Ch):Prop where
 nb:c.binds.length<=26+26 * k
 nr:c.rest.length<=1+6 * k
 tab:tabM c.binds
 goal:okM c.goal
 rest:∀ g∈c.rest,okM g.1
 pos:0<c.binds.length
def okLp (N:Nat) (l:List Sp):Prop:=∀ x∈l,(okU N x.goal/\wT x.goal<=1048576)/\0<=x.body/\x.body<=6/\-1<=x.clause/\x.clause<=1000000
structure okXk (k:Nat) (s:Se):Prop where
 nb:s.st.binds.length<=26+26 * k
 ng:s.st.goals.length<=1+6 * k
 nc:s.st.chs.length<=k
 ns:s.steps.length<=k
 tab:tabM s.st.binds
 goals:∀ g∈s.st.goals,okM g.1
 chs:∀ c∈s.st.chs,okRk k c
 steps:okLp s.st.binds.length s.steps
 saved:∀ i (h:i<s.st.chs.length) (h':i<s.saved.length),okLp s.st.chs[i].binds.length s.saved[i]
 nv:∀ l∈s.saved,l.length<=k
 pos:0<s.st.binds.length
theorem okRk.up {k:Nat} {c:Ch} (h:okRk k c):okRk (k+1) c:=⟨by have:=h.nb; omega,by have:=h.nr; omega,h.tab,h.goal,h.rest,h.pos⟩
theorem okLp.mono {N M:Nat} {l:List Sp} (h:okLp N l) (hm:N<=M):okLp M l:=fun x hx=>⟨⟨iC hm _ (h x hx).1.1,(h x hx).1.2⟩,(h x hx).2⟩
theorem okXk.up {k:Nat} {s:Se} (h:okXk k s):okXk (k+1) s:=
 ⟨by have:=h.nb; omega,by have:=h.ng; omega,by have:=h.nc; omega,by have:=h.ns; omega,h.tab,h.goals,fun c hc=>(h.chs c hc).up,h.steps,h.saved,fun l hl=>by have:=h.nv l hl; omega,h.pos⟩
theorem FirstL.of {p:List C} {chs:List Ch} {c:Ch} {l:List Int} {o:Option (St6 × Int × List Int)} (h:FirstL p chs c l o):∀ s i r,o=some (s,i,r)->
  ∃ (n:Nat) (cl:C) (st:al),i=n/\p[n]?=some cl/\s=rH chs c cl [] st/\Uni (VX c.binds cl) (.one c.goal (dx c.binds.length cl.head)) true st:=by
 induction h with
 | nil=>intro s i r h; cases h
 | miss _ _ ih=>exact ih
 | hit ht=>
  intro s i r h
  simp only [bg,cT] at h
  obtain ⟨rfl,rfl,rfl⟩:=h
  cases ht with
  | hit hi hu=>exact ⟨_,_,_,rfl,hi,rfl,hu⟩
  | miss _ _ h=>cases h
theorem TakeR.okXk {p:List C} (hp:∀ cl∈p,X1 cl) (hpl:p.length<=1000000) {k:Nat} {s s':Se} {c:Ch} (h:TakeR p s c (some s')) (hc:sd c) (hr:okRk k c) (hn:s.saved.length=s.st.chs.length)
  (hcs:∀ d∈s.st.chs,okRk k d) (hcn:s.st.chs.length<=k) (hst:okLp c.binds.length s.steps) (hsn:s.steps.length<=k)
  (hsv:∀ i (h:i<s.st.chs.length) (h':i<s.saved.length),okLp s.st.chs[i].binds.length s.saved[i]) (hsvn:∀ l∈s.saved,l.length<=k):okXk (k+1) s':=by
 cases h with
 | @yes u i l hF=>
  obtain ⟨n,cl,st,rfl,hi,rfl,hu⟩:=hF.of _ _ _ rfl
  have hm:=hp cl (cz hi)
  obtain ⟨hg,_⟩:=hu.good (B8 hc cl) (Mw hc hm.cf)
  have htab:tabM st:=hu.okM (hr.tab.grow _) ⟨hr.goal,pF _ _ hm.hd⟩
  have hlen:=hg.len
  have hfr:=hm.fr
  have hln:=hm.ln
  have hnb:=hr.nb
  have hnr:=hr.nr
  have hpos:=hr.pos
  have hrn:okRk (k+1) ⟨c.goal,c.rest,l,c.binds⟩:=okRk.up ⟨hnb,hnr,hr.tab,hr.goal,hr.rest,hpos⟩
  refine ⟨?_,?_,?_,?_,htab,?_,?_,?_,?_,?_,?_⟩
  ·simp only [nU,rH]; omega
  ·simp only [nU,rH,bA,kR]; omega
  ·simp only [nU,bA]; split <;> simp <;> omega
  ·simp only [nU,bA,n4]; omega
  ·intro g hg
   simp only [nU,rH] at hg
   rcases bO.1 hg with hg|hg
   ·obtain ⟨t,ht,rfl⟩:=eU.1 hg
    exact pF _ _ (hm.bd t ht)
   ·exact hr.rest g hg
  ·intro d hd
   simp only [nU] at hd
   rcases bO.1 hd with hd|hd
   ·exact (hcs d hd).up
   ·split at hd
    ·cases hd
    ·rw [cd] at hd
     subst hd
     exact hrn
  ·intro x hx
   simp only [nU,rH] at hx ⊢
   rcases bO.1 hx with hx|hx
   ·exact hst.mono (by omega) x hx
   ·rw [cd] at hx
    subst hx
    simp only [dv,hi,Option.elim_some]
    exact ⟨⟨iC (by omega) _ hc.goal.1,hc.goal.2⟩,by omega,by omega,by omega,by have:=(gx.1 hi).1; omega⟩
  ·intro j h1 h2
   simp only [nU] at h1 h2 ⊢
   by_cases hl:l=[]
   ·subst hl
    simp only [ai,dh] at h1 h2 ⊢
    exact hsv j h1 h2
   ·simp only [ah hl,bA,n4] at h1 h2 ⊢
    by_cases hk:j<s.st.chs.length
    ·rw [gJ hk,gJ (by omega)]
     exact hsv j hk (by omega)
    ·have hk1:j=s.st.chs.length:=by omega
     subst hk1
     rw [gd (aW _),gd (by omega)]
     simp only [hn,eB,lG]
     exact hst
  ·intro q hq
   simp only [nU] at hq
   rcases bO.1 hq with hq|hq
   ·have:=hsvn q hq; omega
   ·split at hq
    ·cases hq
    ·rw [cd] at hq
     subst hq
     omega
  ·simp only [nU,rH]; omega
def okBL (cs:List Ch) (ss:List (List Sp)):Prop:=∀ i (h:i<cs.length) (h':i<ss.length),okLp cs[i].binds.length ss[i]
theorem okBL.last {cs:List Ch} {ss:List (List Sp)} {c:Ch} {t:List Sp} (h:okBL (cs++[c]) (ss++[t])) (hl:cs.length=ss.length):okBL cs ss/\okLp c.binds.length t:=by
 constructor
 ·intro i h1 h2
  have:=h i (by simp; omega) (by simp; omega)
  rw [gJ h1,gJ h2] at this
  exact this
 ·have:=h cs.length (by simp) (by simp [hl])
  rw [gd (aW _),gd (by omega)] at this
  simp only [hl,eB,lG] at this
  exact this
theorem BackR.okXk {p:List C} (hp:∀ cl∈p,X1 cl) (hpl:p.length<=1000000) {k:Nat} {cs:List Ch} {ss:List (List Sp)} {o:Option Se} (h:BackR p cs ss o):cs.length=ss.length->(∀ c∈cs,sd c/\okRk k c)->cs.length<=k->okBL cs ss->(∀ l∈ss,l.length<=k)->∀ s,o=some s->Go.Proofs.YtgllldjiaglkcaaGreatDoor.okXk (k+1) s:=by
 induction h with
 | nil=>intro _ _ _ _ _ s h; cases h
 | hit ht=>
  intro hl hh hk hb hv s h
  simp only [bA,n4,xw] at hl hk
  rw [bg] at h
  subst h
  obtain ⟨h1,h2⟩:=hb.last hl
  exact ht.okXk hp hpl (hh _ (by simp)).1 (hh _ (by simp)).2 hl.symm (fun d hd=>(hh d (dy _ hd)).2) (by simp only; omega) h2 (hv _ (by simp)) h1 fun l hl=>hv l (dy _ hl)
 | miss _ _ ih=>
  intro hl hh hk hb hv
  simp only [bA,n4,xw] at hl hk
  exact ih hl (fun d hd=>hh d (dy _ hd)) (by omega) (hb.last hl).1 fun l hl=>hv l (dy _ hl)
theorem OneR.okXk {p:List C} (hp:∀ cl∈p,X1 cl) (hpl:p.length<=1000000) {k:Nat} {s s':Se} {e:Int} (h:OneR p s s' e) (hs:Bd p.length s) (hx:okXk k s):okXk (k+1) s'/\(e=-2->s'=s):=by
 have hgo:=hs.st.goals
 have hgm:=hx.goals
 cases h with
 | big=>exact ⟨hx.up,fun _=>rfl⟩
 | stuck=>exact ⟨hx.up,fun _=>rfl⟩
 | fail=>exact ⟨hx.up,fun _=>rfl⟩
 | err=>exact ⟨hx.up,fun _=>rfl⟩
 | @took g rest u _ hg hu hsm _ _ ht=>
  rw [hg] at hgo hgm
  have hou:=jD hs.st.good hu (hgo _ (aS ..)).1
  have hw:=gj hsm hou
  have hum:okM u:=Res.okM hx.tab hu (hgm _ (aS ..))
  have hng:=hx.ng
  rw [hg,bw] at hng
  refine ⟨ht.okXk hp hpl ⟨hs.st.good,⟨hou,by simp only; omega⟩,fun x hx=>hgo x (aV _ hx)⟩ ⟨hx.nb,by simp only; omega,hx.tab,hum,fun x hx=>hgm x (aV _ hx),hx.pos⟩ hs.len hx.chs hx.nc hx.steps hx.ns hx.saved hx.nv,fun e=>(by cases e)⟩
 | @solved g rest u st hg hu hsm _ hb hB=>
  rw [hg] at hgo hgm
  have hou:=jD hs.st.good hu (hgo _ (aS ..)).1
  have hw:=gj hsm hou
  have hum:okM u:=Res.okM hx.tab hu (hgm _ (aS ..))
  have hgd:=hB.good hs.st.good hb ⟨hou,by omega⟩
  have hl:=hgd.len
  have hng:=hx.ng
  rw [hg,bw] at hng
  have hnb:=hx.nb
  have hns:=hx.ns
  have hpos:=hx.pos
  refine ⟨⟨by simp only; omega,by simp only; omega,by have:=hx.nc; simp only; omega,by simp only [bA,n4]; omega,hB.okM hx.tab hum,fun x h=>hgm x (aV _ h),fun c hc=>(hx.chs c hc).up,?_,hx.saved,fun l hl=>by have:=hx.nv l hl; omega,by simp only; omega⟩,fun e=>(by cases e)⟩
  intro x h
  simp only at h ⊢
  rw [hl]
  rcases bO.1 h with h|h
  ·exact hx.steps x h
  ·rw [cd] at h
   subst h
   exact ⟨⟨hou,by simp only; omega⟩,by simp,by simp,by simp,by simp⟩
theorem Srch.okXk {p:List C} (hp:∀ cl∈p,X1 cl) (hpl:p.length<=1000000) {n:Nat} {s:Se} {o:Option Se} (h:Srch p n s o):∀ k,Bd p.length s->Go.Proofs.YtgllldjiaglkcaaGreatDoor.okXk k s->∀ t,o=some t->Go.Proofs.YtgllldjiaglkcaaGreatDoor.okXk (k+n) t:=by
 induction h with
 | @done n s hg=>
  intro k h1 h2 t h
  rw [bg] at h
  subst h
  induction n with
  | zero=>exact h2
  | succ n ih=>exact ih.up
 | out=>intro _ _ _ t h; cases h
 | halt=>intro _ _ _ t h; cases h
 | stop=>intro _ _ _ t h; cases h
 | @step n _ _ _ hg h1 _ ih=>
  intro k hs hx t h
  have:=ih (k+1) (h1.ok (fun cl hc=>(hp cl hc).cf) hs) (h1.okXk hp hpl hs hx).1 t h
  rwa [show k+(n+1)=k+1+n by omega]
 | @back n _ s' _ _ hg h1 h2 _ ih=>
  intro k hs hx t h
  have hs':=h1.ok (fun cl hc=>(hp cl hc).cf) hs
  have e:=(h1.okXk hp hpl hs hx).2 rfl
  subst e
  have:=ih (k+1) (h2.ok (fun cl hc=>(hp cl hc).cf) hs.len.symm hs.st.chs hs.left _ rfl) (h2.okXk hp hpl hs.len.symm (fun c hc=>⟨hs.st.chs c hc,hx.chs c hc⟩) hx.nc hx.saved hx.nv _ rfl) t h
  rwa [show k+(n+1)=k+1+n by omega]
end
section
open Go Go.RowKit
structure GI where
 t:T
 cut:Int
 up:Int
structure CI where
 goal:T
 node:Int
 rest:List GI
 left:List Int
 binds:al
 taken:Nat
structure NI where
 goal:T
 up:Int
 clause:Int
structure SI where
 st:al
 goals:List GI
 chs:List CI
 nodes:List NI
def g26 (st:al):al:=st++List.replicate 26 none
def cF (st:al) (n:Nat):al:=st++List.replicate (n - st.length) none
theorem qt (st:al):(g26 st).length=st.length+26:=by simp [g26]
theorem dU {st:al} {n:Nat} (h:st.length<=n):(cF st n).length=n:=by simp [cF]; omega
theorem Ie {st:al} {n:Nat} (h:st.length<=n):g26 (cF st n)=cF st (n+26):=by
 unfold g26 cF
 rw [eK,WH]
 congr 2
 omega
theorem nz (st:al):cF st st.length=st:=by simp [cF]
theorem RE (st:al):g26 st=cF st (st.length+26):=by
 rw [<- Ie (aW _),nz]
structure HI where
 i:Nat
 cl:C
 by_:Nat
 l:List Int
 st:al
inductive TryI (p:List C) (g:T):List Int->al->Option HI->Nat->Prop
 | nil {st:al}:TryI p g [] st none st.length
 | hit {i:Nat} {l:List Int} {cl:C} {st st':al}:p[i]?=some cl->Uni (g26 st) (.one g (dx st.length cl.head)) true st'->TryI p g ((i:Int)::l) st (some ⟨i,cl,st.length,l,st'⟩) (st.length+26)
 | miss {i:Nat} {l:List Int} {cl:C} {st st':al} {o:Option HI} {n:Nat}:p[i]?=some cl->Uni (g26 st) (.one g (dx st.length cl.head)) false st'->TryI p g l (g26 st) o n->TryI p g ((i:Int)::l) st o n
def nX (cl:C) (by_:Nat) (cut up:Int) (rest:List GI):List GI:=cl.body.map (fun t=>⟨dx by_ t,cut,up⟩)++rest
def setN (ns:List NI) (at_:Nat) (i:Int):List NI:=ns.modify at_ fun x=>⟨x.goal,x.up,i⟩
def kX (chs:List CI) (nodes:List NI) (g:T) (at_:Int) (rest:List GI) (b:al) (r:HI):SI:=
 ⟨r.st,nX r.cl r.by_ chs.length at_ rest,chs++(if r.l=[] then [] else [⟨g,at_,rest,r.l,b,nodes.length⟩]),setN nodes at_.toNat r.i⟩
inductive BackI (p:List C):List CI->Nat->List NI->Option SI->Prop
 | nil {n:Nat} {ns:List NI}:BackI p [] n ns none
 | hit {cs:List CI} {c:CI} {n m:Nat} {ns:List NI} {r:HI}:TryI p c.goal c.left (cF c.binds n) (some r) m->BackI p (cs++[c]) n ns (some (kX cs (ns.take c.taken) c.goal c.node c.rest (cF c.binds n) r))
 | miss {cs:List CI} {c:CI} {n m:Nat} {ns:List NI} {o:Option SI}:TryI p c.goal c.left (cF c.binds n) none m->BackI p cs m (ns.take c.taken) o->BackI p (cs++[c]) n ns o
def UU (c:Int):Int:=if c=2 then 4 else if c=3 then 5 else if c=4 then 6 else 7
inductive StepI (p:List C) (nc:Bool) (s:SI):Option SI->Int->Prop
 | large {g:GI} {gs:List GI} {t:T}:s.goals=g::gs->Res s.st (.one g.t t)->bI t=false->StepI p nc s none 3
 | noCut {g:GI} {gs:List GI} {t:T}:s.goals=g::gs->Res s.st (.one g.t t)->bI t=true->fS t=true->nc=true->StepI p nc s none 0
 | cut {g:GI} {gs:List GI} {t:T}:s.goals=g::gs->Res s.st (.one g.t t)->bI t=true->fS t=true->nc=false->
   StepI p nc s (some ⟨s.st,gs,s.chs.take g.cut.toNat,s.nodes++[⟨t,g.up,-1⟩]⟩) (-1)
 | solved {g:GI} {gs:List GI} {t:T} {st:al}:s.goals=g::gs->Res s.st (.one g.t t)->bI t=true->fS t=false->cI t=true->Blt s.st t 0 st->
   StepI p nc s (some ⟨st,gs,s.chs,s.nodes++[⟨t,g.up,-1⟩]⟩) (-1)
 | fail {g:GI} {gs:List GI} {t:T} {st:al} {o:Option SI}:s.goals=g::gs->Res s.st (.one g.t t)->bI t=true->fS t=false->cI t=true->Blt s.st t 1 st->
   BackI p s.chs s.st.length (s.nodes++[⟨t,g.up,-1⟩]) o->StepI p nc s o (if o.isSome then -1 else 0)
 | err {g:GI} {gs:List GI} {t:T} {st:al} {c:Int}:s.goals=g::gs->Res s.st (.one g.t t)->bI t=true->fS t=false->cI t=true->Blt s.st t c st->c≠0->c≠1->StepI p nc s none (UU c)
 | unknown {g:GI} {gs:List GI} {t:T}:s.goals=g::gs->Res s.st (.one g.t t)->bI t=true->fS t=false->cI t=false->ku p t=[]->StepI p nc s none 8
 | took {g:GI} {gs:List GI} {t:T} {r:HI} {m:Nat}:s.goals=g::gs->Res s.st (.one g.t t)->bI t=true->fS t=false->cI t=false->ku p t≠[]->
   TryI p t (ku p t) s.st (some r) m->StepI p nc s (some (kX s.chs (s.nodes++[⟨t,g.up,-1⟩]) t s.nodes.length gs s.st r)) (-1)
 | back {g:GI} {gs:List GI} {t:T} {m:Nat} {o:Option SI}:s.goals=g::gs->Res s.st (.one g.t t)->bI t=true->fS t=false->cI t=false->ku p t≠[]->
   TryI p t (ku p t) s.st none m->BackI p s.chs m (s.nodes++[⟨t,g.up,-1⟩]) o->StepI p nc s o (if o.isSome then -1 else 0)
def Ys (n:Int):T:=.mk 1 n emptyB []
def ValsI (st:al) (vars:List Int) (o:Option (List T)):Prop:=∃ us,Res st (.list (vars.map Ys) us)/\
 o=if us.all bI=true/\(cN us []).length<=26 then some (iK (cN us []) us) else none
inductive RunI (p:List C) (vars:List Int) (most:Nat):Nat->SI->List (List T)->List (List T) × Int->Prop
 | fuel {s:SI} {out:List (List T)}:s.goals≠[]->RunI p vars most 0 s out (out,2)
 | stop {n:Nat} {s:SI} {out:List (List T)} {e:Int}:s.goals≠[]->StepI p false s none e->RunI p vars most (n+1) s out (out,e)
 | step {n:Nat} {s s':SI} {out:List (List T)} {e:Int} {r:List (List T) × Int}:s.goals≠[]->StepI p false s (some s') e->RunI p vars most n s' out r->RunI p vars most (n+1) s out r
 | more {n:Nat} {s:SI} {out:List (List T)}:s.goals=[]->out.length=most->RunI p vars most n s out (out,1)
 | large {n:Nat} {s:SI} {out:List (List T)}:s.goals=[]->out.length≠most->ValsI s.st vars none->RunI p vars most n s out (out,3)
 | last {n:Nat} {s:SI} {out:List (List T)} {vs:List T}:s.goals=[]->out.length≠most->ValsI s.st vars (some vs)->BackI p s.chs s.st.length s.nodes none->RunI p vars most n s out (out++[vs],0)
 | next {n:Nat} {s s':SI} {out:List (List T)} {vs:List T} {r:List (List T) × Int}:s.goals=[]->out.length≠most->ValsI s.st vars (some vs)->BackI p s.chs s.st.length s.nodes (some s')->RunI p vars most n s' (out++[vs]) r->RunI p vars most n s out r
structure oP (cl:C):Prop where
 head:(okU 26 cl.head/\wT cl.head<=1048576)/\okM cl.head
 body:∀ t∈cl.body,(okU 26 t/\wT t<=1048576)/\okM t
def okGI (N:Nat) (g:GI):Prop:=((okU N g.t/\wT g.t<=1048576)/\okM g.t)/\0<=g.cut
def cutsG (gs:List GI):Prop:=gs.Pairwise fun a b=>b.cut<=a.cut
structure okCI (m:Nat) (k:Nat) (c:CI):Prop where
 good:Good c.binds.length c.binds
 tab:tabM c.binds
 goal:(okU c.binds.length c.goal/\wT c.goal<=1048576)/\okM c.goal
 rest:∀ g∈c.rest,okGI c.binds.length g/\g.cut<=k
 cuts:cutsG c.rest
 left:∀ i∈c.left,0<=i/\i<m
 node:0<=c.node/\c.node<c.taken
structure okCs (m n k:Nat) (cs:List CI):Prop where
 at_:∀ i (h:i<cs.length),okCI m i cs[i]/\cs[i].binds.length<=n/\cs[i].taken<=k
 srt:cs.Pairwise fun a b=>a.taken<=b.taken
structure xR (m:Nat) (s:SI):Prop where
 good:Good s.st.length s.st
 tab:tabM s.st
 goals:∀ g∈s.goals,okGI s.st.length g/\g.cut<=s.chs.length
 cuts:cutsG s.goals
 chs:okCs m s.st.length s.nodes.length s.chs
def ir:List CI->Nat
 | []=>0
 | c::cs=>c.left.length+ir cs
theorem tX:∀ a b:List CI,ir (a++b)=ir a+ir b
 | [],b=>by simp [ir]
 | x::a,b=>by rw [iR,ir,ir,tX a b,MT]
theorem Kc:∀ (a:List CI) (k:Nat),ir (a.take k)<=ir a
 | [],k=>by simp [ir]
 | x::a,0=>by simp [ir]
 | x::a,k+1=>by
  have:=Kc a k
  rw [tO,ir,ir]
  omega
theorem okCs.nil (m n k:Nat):okCs m n k []:=⟨fun i h=>by simp at h,List.Pairwise.nil⟩
theorem okCs.snoc {m n k:Nat} {cs:List CI} {c:CI} (h:okCs m n k cs) (hc:okCI m cs.length c/\c.binds.length<=n/\c.taken=k):okCs m n k (cs++[c]):=by
 refine ⟨fun i hi=>?_,?_⟩
 ·rw [bA,bw,bU] at hi
  by_cases hic:i<cs.length
  ·rw [gJ hic]; exact h.at_ i hic
  ·obtain rfl:i=cs.length:=by omega
   rw [gd (aW _)]
   simp only [eB,lG]
   exact ⟨hc.1,hc.2.1,M8 hc.2.2⟩
 ·rw [QJ]
  refine ⟨h.srt,List.pairwise_singleton _ _,fun a ha b hb=>?_⟩
  simp only [cd] at hb
  subst hb
  obtain ⟨i,hi,rfl⟩:=zo ha
  rw [hc.2.2]
  exact (h.at_ i hi).2.2
theorem okCs.last {m n k:Nat} {cs:List CI} {c:CI} (h:okCs m n k (cs++[c])):okCs m n c.taken cs/\okCI m cs.length c/\c.binds.length<=n/\c.taken<=k:=by
 have hs:=h.srt
 rw [QJ] at hs
 refine ⟨⟨fun i hi=>?_,hs.1⟩,?_⟩
 ·have:=h.at_ i (by rw [bA]; omega)
  rw [gJ hi] at this
  exact ⟨this.1,this.2.1,hs.2.2 _ (bz hi) c (by simp)⟩
 ·have:=h.at_ cs.length (by rw [bA]; simp)
  rw [gd (aW _)] at this
  simpa using this
theorem okCs.mono {m n k n' k':Nat} {cs:List CI} (h:okCs m n k cs) (hn:n<=n') (hk:k<=k'):okCs m n' k' cs:=⟨fun i hi=>⟨(h.at_ i hi).1,gX (h.at_ i hi).2.1 hn,gX (h.at_ i hi).2.2 hk⟩,h.srt⟩
theorem okCs.take {m n k:Nat} {cs:List CI} (h:okCs m n k cs) (j:Nat):okCs m n k (cs.take j):=⟨fun i hi=>by
 rw [dX] at hi
 rw [Fu]
 exact h.at_ i (by omega),h.srt.sublist (List.take_sublist _ _)⟩
theorem Good.g26 {st:al} (h:Good st.length st):Good (st.length+26) (g26 st):=h.grow 26
theorem tabM.g26 {st:al} (h:tabM st):tabM (g26 st):=h.grow 26
theorem Good.to {st:al} (h:Good st.length st) {n:Nat} (hn:st.length<=n):Good n (cF st n):=by
 have:=h.grow (n - st.length)
 rwa [show st.length+(n - st.length)=n by omega] at this
theorem tabM.to {st:al} (h:tabM st) (n:Nat):tabM (cF st n):=h.grow _
theorem Wt {st:al} {g:T} {cl:C} (hg:okU st.length g/\wT g<=1048576) (hcl:oP cl):okJ (st.length+26) (.one g (dx st.length cl.head)):=by
 refine ⟨⟨iC (wN ..) _ hg.1,hg.2⟩,?_,?_⟩
 ·have:=l7 st.length cl.head hcl.head.1.1
  rwa [qK] at this
 ·rw [o8]; exact hcl.head.1.2
theorem TryI.ex {p:List C} (hp:∀ cl∈p,oP cl) {g:T}:∀ (l:List Int) (st:al),Good st.length st->(okU st.length g/\wT g<=1048576)->(∀ i∈l,0<=i/\i<p.length)->∃ o n,TryI p g l st o n
 | [],st,_,_,_=>⟨none,_,.nil⟩
 | i::l,st,hg,ho,hl=>by
  obtain ⟨h0,h1⟩:=hl i (aS ..)
  obtain ⟨j,rfl⟩:∃ j:Nat,i=j:=⟨i.toNat,by omega⟩
  have hj:j<p.length:=by omega
  have hgj:p[j]?=some p[j]:=gL hj
  have hcl:=hp _ (bz hj)
  obtain ⟨r,st',hu⟩:=Ft _ _ hg.g26 (aW _) _ (Wt ho hcl)
  cases r with
  | true=>exact ⟨_,_,.hit hgj hu⟩
  | false=>
   have hlen:=qt st
   obtain ⟨o,n,ht⟩:=TryI.ex hp l (g26 st) (by rw [hlen]; exact hg.g26) (by rw [hlen]; exact ⟨iC (wN ..) _ ho.1,ho.2⟩) fun i hi=>hl i (aV _ hi)
   exact ⟨o,n,.miss hgj hu ht⟩
theorem TryI.ok {p:List C} (hp:∀ cl∈p,oP cl) {g:T} {l:List Int} {st:al} {o:Option HI} {n:Nat} (h:TryI p g l st o n):Good st.length st->tabM st->((okU st.length g/\wT g<=1048576)/\okM g)->
  st.length<=n/\(o=none->n=st.length+26 * l.length)/\∀ r,o=some r->r.cl∈p/\p[r.i]?=some r.cl/\st.length<=r.by_/\r.st.length=r.by_+26/\n=r.by_+26/\Good n r.st/\tabM r.st/\n+26 * r.l.length<=st.length+26 * l.length/\(∀ i∈r.l,i∈l):=by
 induction h with
 | nil=>intro _ _ _; exact ⟨aW _,fun _=>by simp,fun r hr=>by cases hr⟩
 | @hit i l cl st st' hi hu=>
  intro hg ht ho
  have hcl:=hp _ (cz hi)
  obtain ⟨hg',_⟩:=hu.good hg.g26 (Wt ho.1 hcl)
  have ht':=hu.okM ht.g26 ⟨ho.2,pF _ _ hcl.head.2⟩
  refine ⟨by omega,(fun h=>by cases h),fun r hr=>?_⟩
  simp only [bg] at hr
  subst hr
  refine ⟨cz hi,hi,aW _,hg'.len,rfl,hg',ht',?_,fun i hi=>aV _ hi⟩
  simp only [bw]
  omega
 | @miss i l cl st st' o n hi hu _ ih=>
  intro hg ht ho
  have hlen:=qt st
  obtain ⟨h1,h2,h3⟩:=ih (by rw [hlen]; exact hg.g26) ht.g26 ⟨by rw [hlen]; exact ⟨iC (wN ..) _ ho.1.1,ho.1.2⟩,ho.2⟩
  rw [hlen] at h1 h2 h3
  refine ⟨by omega,fun h=>by rw [h2 h,bw]; omega,fun r hr=>?_⟩
  obtain ⟨a1,a2,a3,a4,a5,a6,a7,a8,a9⟩:=h3 r hr
  exact ⟨a1,a2,by omega,a4,a5,a6,a7,by rw [bw]; omega,fun i hi=>aV _ (a9 i hi)⟩
end
end Go.Proofs.YtgllldjiaglkcaaGreatDoor
