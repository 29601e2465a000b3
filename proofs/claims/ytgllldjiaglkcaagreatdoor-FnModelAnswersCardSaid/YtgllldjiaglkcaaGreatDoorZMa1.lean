/- The program's TermValid and what it calls. -/
import Derived.Test.YtgllldjiaglkcaaGreatDoorZMa0
namespace Go.Proofs.YtgllldjiaglkcaaGreatDoor
section
open Go Go.RowKit
attribute [local irreducible] Run CondV aw aN

theorem gg (n low high:Int) (S:af):Pure Tryz.prog Rd [.int .i64 n,.int .i64 low,.int .i64 high] S (.bool (decide (low<=n) && decide (n<=high))):=by
 intro w hI
 refine DV.2 ?_
 dsimp only[DV,dV]
 refine fU ?_
 refine lh (fun h=>?_) (fun h=>done hI (by rw [h]; rfl))
 refine fU ?_
 exact iy h (done hI (by rw [h]; rfl))
theorem r8 (s:ByteArray) (hs:s.size<=maxLen) (S:af):Pure Tryz.prog IQ [.string s] S (.bool (mM s)):=by
 intro w hI
 simp only [maxLen] at hs
 refine ul.2 ?_
 dsimp only[ul,aL]
 refine lj aU ?_
 refine ⟨fun i w'=>∃ k:Nat,k<=s.size/\i=.int .i64 k/\(s.data.toList.drop k).all sG=th s/\Inv w [] [] S w',fun i _=>s.size - (intOf i).toNat,⟨0,be _,rfl,rfl,hI⟩,?_⟩
 intro t6 _ _ _ _ _ _ _ _ _ _ _ _ _ _ _ w'
 rintro ⟨k,hk,rfl,hrel,hI⟩
 refine bF ?_
 refine aI (fun hki=>?_) (fun hki=>?_)
 ·have hk':k<s.size:=by omega
  have hstep:=pA sG s.data.toList k (by rw [qh]; exact hk')
  rw [Qv s k hk'] at hstep
  refine ⟨fun t w'=>t=.bool (!sG s[k])/\Inv w [] [] S w',?_,?_⟩
  ·refine mp aU hk' ?_
   refine bF ?_
   refine MU (fun h=>⟨?_,hI⟩) (fun h=>?_)
   ·have h:=of_decide_eq_true h
    rw [sG,aW (show ¬ 97<=s[k].toNat by omega)]; rfl
   ·refine mp aU hk' ?_
    refine dC ?_
    refine CT h ⟨?_,hI⟩
    have h:=of_decide_eq_false h
    rw [sG,aM (show 97<=s[k].toNat by omega),dM]
    by_cases h2:s[k].toNat<=122
    ·rw [aM h2,aW (by omega)]; rfl
    ·rw [aW h2,aM (by omega)]; rfl
  intro t _ _ _ _ _ _ _ _ _ w'
  rintro ⟨rfl,hI⟩
  refine az (fun h=>done hI ?_) (fun h=>?_)
  ·simp at h
   rw [mM,<- hrel,hstep,h]; rfl
  ·simp at h
   refine bq (by omega) ?_
   refine ⟨⟨k+1,hk',rfl,by rw [<- hrel,hstep,h]; rfl,hI⟩,by simp [intOf]; omega⟩
 ·have:k=s.size:=by omega
  subst this
  have hl:th s=true:=by rw [<- hrel,<- qh,dL]; rfl
  refine lj aU ?_
  refine Run.callPure gO hO hI (gg _ _ _ S) fun w' hI=>done hI ?_
  rw [mM,hl,dM]
  congr 1
  rw [mP]
  simp
  omega
theorem IU (S:af):Tri Tryz.prog QU [] [] S (KK S):=by
 intro w hI
 refine zX.2 ?_
 dsimp only[zX,oF]
 refine xK (v:=fun b=>.slice (some ⟨b,0,none⟩) 15 15) (o:=.cells B9 gJ) hI (by kernel_rfl) fun b w' hI=>?_
 have hnew:w.heap.size<=b:=by
  rcases hI.new b (by simp [bI,Item.foot]) with h|h
  ·simp [bI] at h
  ·exact h
 obtain ⟨h1,h2⟩:=Inv.publishLast (L:=[]) hI
 exact ⟨_,_,_,rfl,h1,Qg hnew h2,rfl,h2,PB (by simp [jj]; rfl)⟩
theorem xf (s:ByteArray) {xs:List ByteArray} {S:af} {v:Value} (h:RdSl S 1 wJ v xs) :
  Pure Tryz.prog BK [v,.string s] S (.int .i64 (ce (σ:=Unit) (fun _ x=>(decide (x=s),())) () xs 0).1):=by
 intro w hI
 have hlen:=h.le
 simp only [maxLen] at hlen
 refine nY.2 ?_
 dsimp only[nY,aZ]
 refine aC h cH ?_
 refine ⟨fun i w'=>∃ k:Nat,k<=xs.length/\i=.int .i64 k/\ce (σ:=Unit) (fun _ x=>(decide (x=s),())) () (xs.drop k) k=ce (σ:=Unit) (fun _ x=>(decide (x=s),())) () xs 0/\Inv w [] [] S w',
  fun i _=>xs.length - (intOf i).toNat,⟨0,be _,rfl,rfl,hI⟩,?_⟩
 intro t8 _ _ _ _ _ _ _ _ _ _ _ _ w'
 rintro ⟨k,hk,rfl,hrel,hI⟩
 refine bF ?_
 refine aI (fun hki=>?_) (fun hki=>?_)
 ·have hk':k<xs.length:=by omega
  rw [cZ hk',ce] at hrel
  refine io hI h cH aQ hk' (fun cs hcs=>hcs) ?_
  refine bO ?_
  refine aI (fun he=>done hI ?_) (fun he=>?_)
  ·rw [<- hrel,ai (by simpa using he.symm)]
  ·refine bq (by omega) ?_
   rw [ah (by simpa using fun e=>he e.symm)] at hrel
   exact ⟨⟨k+1,hk',rfl,hrel,hI⟩,by simp [intOf]; omega⟩
 ·have:k=xs.length:=by omega
  subst this
  rw [dL,ce] at hrel
  exact done hI (by rw [<- hrel])
theorem gz (s:ByteArray) {xs:List ByteArray} {S:af} {v:Value} (h:RdSl S 1 wJ v xs) :
  Pure Tryz.prog vh [v,.string s] S (.bool (xs.any fun x=>decide (x=s))):=by
 intro w hI
 refine li.2 ?_
 dsimp only[li,aZ]
 refine Run.callPure y8 z8 hI (xf s h) fun w' hI=>?_
 refine mY (done hI ?_)
 rw [(kA _ xs () 0).1,gu]
theorem Cd (s:ByteArray) (hs:s.size<=maxLen) (S:af):Pure Tryz.prog Ju [.string s] S (.bool (lN s)):=by
 intro w hI
 refine uq.2 ?_
 dsimp only[uq,aL]
 refine Run.callPure tU tm hI (r8 s hs S) fun w' hI=>?_
 refine MU (fun h=>done hI ?_) (fun h=>?_)
 ·rw [lN,h]; rfl
 ·refine Run.call0 LS MN hI (IU S) fun v' I' S' w'=>?_
  rintro ⟨rfl,_,hr⟩ hle hI
  refine Run.callPure g5 g7 hI (gz s hr) fun w' hI=>?_
  refine CT h (jz hI hle ?_)
  rw [lN,h]; rfl

abbrev lp (b:Nat) (c:Int):Item:=.blk b (.cells #[.int .i64 c] cc)
abbrev zZ (bc:Nat) (S:af) (r:Bool × Int):Value->List Item->af->Prop:=fun v I' S'=>v=.bool r.1/\I'=[lp bc r.2]/\S'=S
theorem OG:∀ (t:T) (deep c:Int),c<=120->(fW t deep c).1=true->c<(fW t deep c).2/\(fW t deep c).2<=120:=by
 intro t deep c hc h
 have:=HC t deep c
 rw [this.2 h]
 have h1:=this.1
 rw [h] at h1
 have h2:=h1.symm
 simp at h2
 have:=zh t
 omega
theorem KG (deep:Int):∀ (ks:List T) (c:Int),sB (fun c t=>(!(fW t deep c).1,(fW t deep c).2)) c ks=(!(mS ks deep c).1,(mS ks deep c).2)
 | [],c=>by simp [sB,mS]
 | t::ts,c=>by
  by_cases h:(fW t deep c).1=true
  ·simp [sB,mS,h,KG deep ts]
  ·simp [sB,mS,h]

theorem Rt:∀ (t:T) (S:af) (cs:List Value) (deep c:Int) (bc:Nat),RdT S cs t->0<=deep->deep<=31->0<=c->c<=120->
  Tri Tryz.prog XS [.agg cs.toArray,.int .i64 deep,.pointer (some ⟨bc,0,none⟩)] [lp bc c] S (zZ bc S (fW t deep c)):=by
 refine T.ind fun k n s ks ih S cs deep c bc h hd0 hd1 hc0 hc1=>?_
 intro w hI
 obtain ⟨kv,rfl,_,_,hs,hks⟩:=RdT.iff.1 h
 simp only [T.name,T.kids,T.kind,T.n] at hs hks ⊢
 have hend:∀ {L:List Item} {w':World} {v:Value} (r:Bool × Int),Inv w (bI [lp bc c]) (lp bc r.2::L) S w'->v=.bool r.1->r=fW (.mk k n s ks) deep c->
   ∃ v' I' S',Ending.returned v=.returned v'/\Inv w (bI [lp bc c]) I' S' w'/\Ext w.heap.size (bI [lp bc c]) S S'/\zZ bc S (fW (.mk k n s ks) deep c) v' I' S':=by
  intro L w' v r h1 h2 h3
  subst h3
  exact ⟨_,_,_,rfl,h1.pick [true],Ext.refl _ _ _,h2,rfl,rfl⟩
 refine KD.2 ?_
 dsimp only[KD,dV]
 refine bt hI fun b3 w' hI=>?_
 refine bt hI fun b4 w' hI=>?_
 refine bt hI fun b5 w' hI=>?_
 refine aX hI 3 Mw rfl rfl ?_
 refine aE ?_
 refine aX hI 0 aH rfl rfl ?_
 refine bq (by omega) ?_
 refine aE ?_
 refine c8 hI 0 (n:=1) rfl (by rw [aH]; rfl) rfl (lC rfl) (by simp [Value.cells]; rfl) fun w' hI=>?_
 refine ⟨fun t w'=>t=.bool (decide (120<c+1 ∨ 30<deep))/\Inv w (bI [lp bc c]) [lp bc (c+1),.blk b3 (.cells #[.int .i64 k,.int .i64 n,.string s,kv] ac),.blk b4 (.cells #[.int .i64 deep] cc),.blk b5 (.cells #[.pointer (some ⟨bc,0,none⟩)] qO)] S w',?_,?_⟩
 ·refine aX hI 3 Mw rfl rfl ?_
  refine aE ?_
  refine aX hI 0 aH rfl rfl ?_
  refine dC ?_
  refine MU (fun h=>⟨?_,hI⟩) (fun h=>?_)
  ·have h:=of_decide_eq_true h
   rw [aM (show 120<c+1 ∨ 30<deep from .inl h)]
  ·refine aX hI 2 aH rfl rfl ?_
   refine dC ?_
   refine CT h ⟨?_,hI⟩
   have h:=of_decide_eq_false h
   congr 1
   rw [mP]
   simp
   omega
 intro t _ _ _ _ _ _ _ w'
 rintro ⟨rfl,hI⟩
 refine aI (fun hb=>?_) (fun hb=>?_)
 ·exact hend (false,c+1) hI rfl (by rw [fW,ai hb])
 have hsc:∀ r,(if k=1 ∨ k=2 then (dS (.mk k n s ks),c+1) else if k=3 then (if dS (.mk k n s ks) then mS ks (deep+1) (c+1) else (false,c+1)) else (false,c+1))=r->r=fW (.mk k n s ks) deep c:=by
  intro r hr
  rw [fW,ah hb,hr]
 refine ag hI 1 rfl aP aH rfl ?_
 refine bo ?_
 refine aI (fun hk=>?_) (fun hk=>?_)
 ·have ho:dS (.mk k n s ks)=(decide (0<=n) && (decide (n<=25) && (decide (s=emptyB) && decide (ks.length=0)))):=by
   rw [dS]; exact ai hk
  have hfin:∀ {w':World} {b:Bool},Inv w (bI [lp bc c]) [lp bc (c+1),.blk b3 (.cells #[.int .i64 k,.int .i64 n,.string s,kv] ac),.blk b4 (.cells #[.int .i64 deep] cc),.blk b5 (.cells #[.pointer (some ⟨bc,0,none⟩)] qO)] S w'->
    b=dS (.mk k n s ks)->∃ v' I' S',Ending.returned (.bool b)=.returned v'/\Inv w (bI [lp bc c]) I' S' w'/\Ext w.heap.size (bI [lp bc c]) S S'/\zZ bc S (fW (.mk k n s ks) deep c) v' I' S':=
   fun hI hb=>hend (_,c+1) hI (by rw [hb]) (hsc _ (ai (.inl hk)))
  refine ag hI 1 rfl bh aH rfl ?_
  refine Run.callPure gO hO hI (gg _ _ _ S) fun w' hI=>?_
  refine lh (fun h2=>?_) (fun h2=>?_)
  ·have h2':=h2
   rw [bw] at h2'
   refine ag hI 1 rfl bb aQ rfl ?_
   refine bO ?_
   refine iy h2 ?_
   refine lh (fun h3=>?_) (fun h3=>hfin hI ?_)
   ·refine ag hI 1 rfl al aj rfl ?_
    refine aC hks ae ?_
    refine bo ?_
    refine iy h3 (hfin hI ?_)
    rw [ho,h2'.1,h2'.2,show decide (s=emptyB)=true from h3]
    simp
   ·rw [ho,h2'.1,h2'.2,show decide (s=emptyB)=false from h3]; rfl
  ·refine ri (hfin hI ?_)
   rw [ho,<- EL,h2]; rfl
 refine bo ?_
 refine aI (fun hk2=>?_) (fun hk2=>?_)
 ·have ho:dS (.mk k n s ks)=(decide (-999<=n) && (decide (n<=999) && (decide (s=emptyB) && decide (ks.length=0)))):=by
   rw [dS]; exact (ah hk).trans (ai hk2)
  have hfin:∀ {w':World} {b:Bool},Inv w (bI [lp bc c]) [lp bc (c+1),.blk b3 (.cells #[.int .i64 k,.int .i64 n,.string s,kv] ac),.blk b4 (.cells #[.int .i64 deep] cc),.blk b5 (.cells #[.pointer (some ⟨bc,0,none⟩)] qO)] S w'->
    b=dS (.mk k n s ks)->∃ v' I' S',Ending.returned (.bool b)=.returned v'/\Inv w (bI [lp bc c]) I' S' w'/\Ext w.heap.size (bI [lp bc c]) S S'/\zZ bc S (fW (.mk k n s ks) deep c) v' I' S':=
   fun hI hb=>hend (_,c+1) hI (by rw [hb]) (hsc _ (ai (.inr hk2)))
  refine ag hI 1 rfl bh aH rfl ?_
  refine Run.callPure gO hO hI (gg _ _ _ S) fun w' hI=>?_
  refine lh (fun h2=>?_) (fun h2=>?_)
  ·have h2':=h2
   rw [bw] at h2'
   refine ag hI 1 rfl bb aQ rfl ?_
   refine bO ?_
   refine iy h2 ?_
   refine lh (fun h3=>?_) (fun h3=>hfin hI ?_)
   ·refine ag hI 1 rfl al aj rfl ?_
    refine aC hks ae ?_
    refine bo ?_
    refine iy h3 (hfin hI ?_)
    rw [ho,h2'.1,h2'.2,show decide (s=emptyB)=true from h3]
    simp
   ·rw [ho,h2'.1,h2'.2,show decide (s=emptyB)=false from h3]; rfl
  ·refine ri (hfin hI ?_)
   rw [ho,<- EL,h2]; rfl
 refine bo ?_
 have hk12:¬ (k=1 ∨ k=2):=fun h=>h.elim hk hk2
 refine aI (fun hk3=>?_) (fun hk3=>?_)
 ·have ho:dS (.mk k n s ks)=(decide (n=0) && (lN s && decide (ks.length<=4))):=by
   rw [dS]; exact (ah hk).trans ((ah hk2).trans (ai hk3))
  refine ⟨fun t w'=>t=.bool (!dS (.mk k n s ks))/\Inv w (bI [lp bc c]) [lp bc (c+1),.blk b3 (.cells #[.int .i64 k,.int .i64 n,.string s,kv] ac),.blk b4 (.cells #[.int .i64 deep] cc),.blk b5 (.cells #[.pointer (some ⟨bc,0,none⟩)] qO)] S w',?_,?_⟩
  ·refine ag hI 1 rfl bh aH rfl ?_
   refine ei ?_
   refine MU (fun h1=>?_) (fun h1=>?_)
   ·have h1':decide (n=0)=false:=by simpa using h1
    refine acN ⟨?_,hI⟩
    rw [ho,h1']; rfl
   ·have h1':decide (n=0)=true:=by simpa using h1
    refine ag hI 1 rfl bb aQ rfl ?_
    refine Run.callPure Hi GT hI (Cd s hs S) fun w' hI=>?_
    refine bX ?_
    refine CT h1 ?_
    refine MU (fun h2=>⟨?_,hI⟩) (fun h2=>?_)
    ·have h2':lN s=false:=by simpa using h2
     rw [ho,h1',h2']; rfl
    ·have h2':lN s=true:=by simpa using h2
     refine ag hI 1 rfl al aj rfl ?_
     refine aC hks ae ?_
     refine dC ?_
     refine CT h2 ⟨?_,hI⟩
     rw [ho,h1',h2',dM,dM]
     congr 1
     rw [mP]
     simp
     omega
  intro t _ _ _ _ _ _ _ _ _ _ _ _ _ _ w'
  rintro ⟨rfl,hI⟩
  refine az (fun hb1=>?_) (fun hb1=>?_)
  ·have hb1':dS (.mk k n s ks)=false:=by simpa using hb1
   exact hend (false,c+1) hI rfl (hsc _ (by rw [ah hk12,ai hk3,hb1']; rfl))
  ·have hb1':dS (.mk k n s ks)=true:=by simpa using hb1
   refine ag hI 1 rfl al aj rfl ?_
   refine gf ?_
   have hcb:Cb Tryz.prog Rs Tryz.f204 [.pointer (some ⟨b4,0,none⟩),.pointer (some ⟨b5,0,none⟩)] S
     (fun c:Int=>[lp bc c,.blk b4 (.cells #[.int .i64 deep] cc),.blk b5 (.cells #[.pointer (some ⟨bc,0,none⟩)] qO)]) (fun c=>0<=c/\c<=120)
     (fun c t=>(!(fW t (deep+1) c).1,(fW t (deep+1) c).2)) (fun v x=>∃ cs,v=.agg cs.toArray/\RdT S cs x) ks:=by
    refine ⟨Pw,QD,fun st x _ hst hf=>?_,fun st x v hx hst=>?_⟩
    ·have:=OG x (deep+1) st hst.2 (by simpa using hf)
     omega
    ·rintro ⟨cs,rfl,hcs⟩ w1 hI
     have hl:=hcs.length
     refine DM.2 ?_
     dsimp only[DM,dV]
     refine bt hI fun b w' hI=>?_
     refine ar hI 3 ad rfl (by simpa [Value.cells] using hl) ?_
     refine aX hI 1 aH rfl rfl ?_
     refine bq (by omega) ?_
     refine aX hI 2 Mw rfl rfl ?_
     have hI:=hI.perm (M:=[.blk b4 (.cells #[.int .i64 deep] cc),.blk b5 (.cells #[.pointer (some ⟨bc,0,none⟩)] qO),.blk b (.cells (Value.agg cs.toArray).cells ac)]++[lp bc st])
      (cu (l₁:=[_,_,_]) (l₂:=[lp bc st]))
     refine Run.call LE Lg hI (ih x hx S cs (deep+1) st bc hcs (by omega) (by omega) hst.1 hst.2) fun v' I' S' w'=>?_
     rintro ⟨rfl,rfl,rfl⟩ _ hI
     refine bX ?_
     have hI:=(hI.perm (M:=[lp bc (fW x (deep+1) st).2]++[.blk b4 (.cells #[.int .i64 deep] cc),.blk b5 (.cells #[.pointer (some ⟨bc,0,none⟩)] qO),.blk b (.cells (Value.agg cs.toArray).cells ac)])
      cu).pick [true,true,true,false]
     exact ⟨_,_,_,rfl,hI,Ext.refl _ _ _,rfl,rfl,rfl⟩
   have hI:=hI.perm (M:=[.blk b3 (.cells #[.int .i64 k,.int .i64 n,.string s,kv] ac)]++[lp bc (c+1),.blk b4 (.cells #[.int .i64 deep] cc),.blk b5 (.cells #[.pointer (some ⟨bc,0,none⟩)] qO)]) (List.Perm.swap _ _ _)
   refine Run.call dj dn hI (ez hcb hks ⟨by omega,by omega⟩) fun v' I' S' w'=>?_
   rintro ⟨rfl,rfl,rfl⟩ _ hI
   refine bX ?_
   rw [KG] at hI ⊢
   have hI:=hI.perm (M:=[lp bc (mS ks (deep+1) (c+1)).2,.blk b3 (.cells #[.int .i64 k,.int .i64 n,.string s,kv] ac),.blk b4 (.cells #[.int .i64 deep] cc),.blk b5 (.cells #[.pointer (some ⟨bc,0,none⟩)] qO)]) (List.Perm.swap _ _ _)
   refine hend (mS ks (deep+1) (c+1)) hI (by simp) (hsc _ (by rw [ah hk12,ai hk3,hb1']; rfl))
 ·exact hend (false,c+1) hI rfl (hsc _ (by rw [ah hk12,ah hk3]))

theorem fO {t:T} {S:af} {cs:List Value} (h:RdT S cs t):Pure Tryz.prog IR [.agg cs.toArray] S (.bool (cn t)):=by
 intro w hI
 have hl:=h.length
 refine uM.2 ?_
 dsimp only[uM,aL]
 refine bt hI fun b1 w' hI=>?_
 refine aV hI Yv fun b2 w' hI=>?_
 refine c8 hI 1 (n:=1) rfl (by rw [aH]; rfl) rfl (lC rfl) (by simp [Value.cells]; rfl) fun w' hI=>?_
 refine ar hI 0 ad rfl (by simpa [Value.cells] using hl) ?_
 refine Run.call (A:=[_]) (I:=[lp b2 0]) LE Lg hI (Rt t S cs 1 0 b2 h (by omega) (by omega) (by omega) (by omega)) fun v' I' S' w'=>?_
 rintro ⟨rfl,rfl,rfl⟩ _ hI
 exact done hI (by rw [Te])
end
section
open Go Go.RowKit
attribute [local irreducible] Run CondV aw aN

def sk:List ByteArray:=[⟨#[61]⟩,⟨#[92,61]⟩,⟨#[61,61]⟩,⟨#[60]⟩,⟨#[62]⟩,⟨#[61,60]⟩,⟨#[62,61]⟩,⟨#[61,58,61]⟩,⟨#[105,115]⟩]
def qw:List ByteArray:=[⟨#[116,114,117,101]⟩,⟨#[102,97,105,108]⟩]
def vL:List ByteArray:=[⟨#[118,97,114]⟩,⟨#[110,111,110,118,97,114]⟩,⟨#[97,116,111,109]⟩,⟨#[105,110,116]⟩]
def z9:List ByteArray:=[⟨#[43]⟩,⟨#[45]⟩]
def oz:List ByteArray:=[⟨#[42]⟩,⟨#[47,47]⟩,⟨#[109,111,100]⟩]
def df (s:ByteArray) (l:List ByteArray):Bool:=l.any fun x=>decide (s=x)
def fe (s:ByteArray) (n:Int):Bool:=
 if df s sk=true then decide (n=2)
 else if df s qw=true then decide (n=0)
 else if df s vL=true then decide (n=1)
 else if s=⟨#[97,114,103]⟩ then decide (n=3)
 else false
def cM (s:ByteArray):Int:=if df s sk=true then 3 else if df s z9=true then 2 else if df s oz=true then 1 else 0
def fw (t:T):Bool:=decide (t.kind=3) && (decide (t.name=⟨#[33]⟩) && decide (t.kids.length=0))
def XB (t:T):Bool:=decide (t.kind=3) && decide (t.kids.length=0)
def cz (t:T):Bool:=decide (t.kind=3) && fe t.name t.kids.length
def cF (t:T):Bool:=decide (t.kind=3) && (mM t.name && (!fe t.name t.kids.length && decide (cM t.name=0)))
def eX (t:T):Bool:=cn t && (fw t || (cF t || cz t))
def bN (c:C):Bool:=decide (c.body.length<=6) && (c.body.all eX && (cn c.head && cF c.head))
def eA (l:List T):Bool:=decide (l.length<=6) && l.all eX
def dx (p:List C):Bool:=decide (p.length<=20) && p.all bN
theorem V0 (s:ByteArray):(!decide (0<cM s))=decide (cM s=0):=by
 unfold cM
 split
 ·rfl
 ·split
  ·rfl
  ·split <;> rfl

theorem pn (s:ByteArray) (n:Int) (S:af):Pure Tryz.prog Jk [.string s,.int .i64 n] S (.bool (fe s n)):=by
 intro w hI
 refine tE.2 ?_
 dsimp only[tE,aZ]
 obtain ⟨q,hq⟩:∃ q,df s sk=q:=⟨_,rfl⟩
 have hq1:=hq
 refine ⟨fun t w'=>t=.bool q/\Inv w [] [] S w',?_,?_⟩
 ·unfold df sk at hq
  iterate 8
   refine bO ?_
   refine az (fun h=>⟨by rw [fE,h] at hq; rw [h,<- hq]; rfl,hI⟩) (fun h=>?_)
   rw [fE,h,fL] at hq
  refine bO ⟨?_,hI⟩
  rw [<- hq]; simp
 intro t _ _ _ _ _ _ _ _ _ w'
 rintro ⟨rfl,hI⟩
 refine az (fun h=>?_) (fun h=>?_)
 ·exact bo (done hI (by rw [fe,ai (hq1.trans h)]))
 have e1:fe s n=if df s qw=true then decide (n=0) else if df s vL=true then decide (n=1) else if s=⟨#[97,114,103]⟩ then decide (n=3) else false:=by
  rw [fe,ah (by rw [hq1,h]; decide)]
 clear hq hq1 h
 obtain ⟨q,hq⟩:∃ q,df s qw=q:=⟨_,rfl⟩
 have hq1:=hq
 refine ⟨fun t w'=>t=.bool q/\Inv w [] [] S w',?_,?_⟩
 ·unfold df qw at hq
  refine bO ?_
  refine az (fun h=>⟨by rw [fE,h] at hq; rw [h,<- hq]; rfl,hI⟩) (fun h=>?_)
  rw [fE,h,fL] at hq
  refine bO ⟨?_,hI⟩
  rw [<- hq]; simp
 intro _ t _ w'
 rintro ⟨rfl,hI⟩
 refine az (fun h=>?_) (fun h=>?_)
 ·exact bo (done hI (by rw [e1,ai (hq1.trans h)]))
 rw [ah (by rw [hq1,h]; decide)] at e1
 clear hq hq1 h
 obtain ⟨q,hq⟩:∃ q,df s vL=q:=⟨_,rfl⟩
 have hq1:=hq
 refine ⟨fun t w'=>t=.bool q/\Inv w [] [] S w',?_,?_⟩
 ·unfold df vL at hq
  iterate 3
   refine bO ?_
   refine az (fun h=>⟨by rw [fE,h] at hq; rw [h,<- hq]; rfl,hI⟩) (fun h=>?_)
   rw [fE,h,fL] at hq
  refine bO ⟨?_,hI⟩
  rw [<- hq]; simp
 intro _ _ _ t _ w'
 rintro ⟨rfl,hI⟩
 refine az (fun h=>?_) (fun h=>?_)
 ·exact bo (done hI (by rw [e1,ai (hq1.trans h)]))
 rw [ah (by rw [hq1,h]; decide)] at e1
 refine bO ?_
 refine aI (fun h=>?_) (fun h=>?_)
 ·exact bo (done hI (by rw [e1,ai h]))
 ·exact done hI (by rw [e1,ah h])
theorem pY (s:ByteArray) (n:Int) (S:af):Pure Tryz.prog Jg [.string s,.int .i64 n] S (.bool (fe s n)):=by
 intro w hI
 refine uS.2 ?_
 dsimp only[uS,aZ]
 obtain ⟨q,hq⟩:∃ q,df s sk=q:=⟨_,rfl⟩
 have hq1:=hq
 refine ⟨fun t w'=>t=.bool q/\Inv w [] [] S w',?_,?_⟩
 ·unfold df sk at hq
  iterate 8
   refine bO ?_
   refine az (fun h=>⟨by rw [fE,h] at hq; rw [h,<- hq]; rfl,hI⟩) (fun h=>?_)
   rw [fE,h,fL] at hq
  refine bO ⟨?_,hI⟩
  rw [<- hq]; simp
 intro t _ _ _ _ _ _ _ _ _ w'
 rintro ⟨rfl,hI⟩
 refine az (fun h=>?_) (fun h=>?_)
 ·exact bo (done hI (by rw [fe,ai (hq1.trans h)]))
 have e1:fe s n=if df s qw=true then decide (n=0) else if df s vL=true then decide (n=1) else if s=⟨#[97,114,103]⟩ then decide (n=3) else false:=by
  rw [fe,ah (by rw [hq1,h]; decide)]
 clear hq hq1 h
 obtain ⟨q,hq⟩:∃ q,df s qw=q:=⟨_,rfl⟩
 have hq1:=hq
 refine ⟨fun t w'=>t=.bool q/\Inv w [] [] S w',?_,?_⟩
 ·unfold df qw at hq
  refine bO ?_
  refine az (fun h=>⟨by rw [fE,h] at hq; rw [h,<- hq]; rfl,hI⟩) (fun h=>?_)
  rw [fE,h,fL] at hq
  refine bO ⟨?_,hI⟩
  rw [<- hq]; simp
 intro _ t _ w'
 rintro ⟨rfl,hI⟩
 refine az (fun h=>?_) (fun h=>?_)
 ·exact bo (done hI (by rw [e1,ai (hq1.trans h)]))
 rw [ah (by rw [hq1,h]; decide)] at e1
 clear hq hq1 h
 obtain ⟨q,hq⟩:∃ q,df s vL=q:=⟨_,rfl⟩
 have hq1:=hq
 refine ⟨fun t w'=>t=.bool q/\Inv w [] [] S w',?_,?_⟩
 ·unfold df vL at hq
  iterate 3
   refine bO ?_
   refine az (fun h=>⟨by rw [fE,h] at hq; rw [h,<- hq]; rfl,hI⟩) (fun h=>?_)
   rw [fE,h,fL] at hq
  refine bO ⟨?_,hI⟩
  rw [<- hq]; simp
 intro _ _ _ t _ w'
 rintro ⟨rfl,hI⟩
 refine az (fun h=>?_) (fun h=>?_)
 ·exact bo (done hI (by rw [e1,ai (hq1.trans h)]))
 rw [ah (by rw [hq1,h]; decide)] at e1
 refine bO ?_
 refine aI (fun h=>?_) (fun h=>?_)
 ·exact bo (done hI (by rw [e1,ai h]))
 ·exact done hI (by rw [e1,ah h])

theorem eM (s:ByteArray) (S:af):Pure Tryz.prog Pe [.string s] S (.int .i64 (cM s)):=by
 intro w hI
 refine Aa.2 ?_
 dsimp only[Aa,aL]
 obtain ⟨q,hq⟩:∃ q,df s sk=q:=⟨_,rfl⟩
 have hq1:=hq
 refine ⟨fun t w'=>t=.bool q/\Inv w [] [] S w',?_,?_⟩
 ·unfold df sk at hq
  iterate 8
   refine bO ?_
   refine az (fun h=>⟨by rw [fE,h] at hq; rw [h,<- hq]; rfl,hI⟩) (fun h=>?_)
   rw [fE,h,fL] at hq
  refine bO ⟨?_,hI⟩
  rw [<- hq]; simp
 intro _ _ _ _ _ _ _ _ t _ w'
 rintro ⟨rfl,hI⟩
 refine az (fun h=>?_) (fun h=>?_)
 ·exact done hI (by rw [show cM s=3 from ai (hq1.trans h)] <;> rfl)
 have e1:cM s=if df s z9=true then 2 else if df s oz=true then 1 else 0:=by
  rw [cM,ah (by rw [hq1,h]; decide)]
 clear hq hq1 h
 obtain ⟨q,hq⟩:∃ q,df s z9=q:=⟨_,rfl⟩
 have hq1:=hq
 refine ⟨fun t w'=>t=.bool q/\Inv w [] [] S w',?_,?_⟩
 ·unfold df z9 at hq
  refine bO ?_
  refine az (fun h=>⟨by rw [fE,h] at hq; rw [h,<- hq]; rfl,hI⟩) (fun h=>?_)
  rw [fE,h,fL] at hq
  refine bO ⟨?_,hI⟩
  rw [<- hq]; simp
 intro _ t _ w'
 rintro ⟨rfl,hI⟩
 refine az (fun h=>?_) (fun h=>?_)
 ·exact done hI (by rw [show cM s=2 from e1.trans (ai (hq1.trans h))] <;> rfl)
 rw [ah (by rw [hq1,h]; decide)] at e1
 clear hq hq1 h
 obtain ⟨q,hq⟩:∃ q,df s oz=q:=⟨_,rfl⟩
 have hq1:=hq
 refine ⟨fun t w'=>t=.bool q/\Inv w [] [] S w',?_,?_⟩
 ·unfold df oz at hq
  iterate 2
   refine bO ?_
   refine az (fun h=>⟨by rw [fE,h] at hq; rw [h,<- hq]; rfl,hI⟩) (fun h=>?_)
   rw [fE,h,fL] at hq
  refine bO ⟨?_,hI⟩
  rw [<- hq]; simp
 intro _ _ t _ w'
 rintro ⟨rfl,hI⟩
 refine az (fun h=>?_) (fun h=>?_)
 ·exact done hI (by rw [show cM s=1 from e1.trans (ai (hq1.trans h))] <;> rfl)
 ·exact done hI (by rw [show cM s=0 from e1.trans (ah (by rw [hq1,h]; decide))] <;> rfl)
theorem EI (s:ByteArray) (S:af):Pure Tryz.prog Qp [.string s] S (.tuple #[.int .i64 (cM s),.bool (decide (cM s=1) || decide (cM s=2))]):=by
 intro w hI
 refine zG.2 ?_
 dsimp only[zG,aL]
 obtain ⟨q,hq⟩:∃ q,df s sk=q:=⟨_,rfl⟩
 have hq1:=hq
 refine ⟨fun t w'=>t=.bool q/\Inv w [] [] S w',?_,?_⟩
 ·unfold df sk at hq
  iterate 8
   refine bO ?_
   refine az (fun h=>⟨by rw [fE,h] at hq; rw [h,<- hq]; rfl,hI⟩) (fun h=>?_)
   rw [fE,h,fL] at hq
  refine bO ⟨?_,hI⟩
  rw [<- hq]; simp
 intro _ _ _ _ _ _ _ _ t _ w'
 rintro ⟨rfl,hI⟩
 refine az (fun h=>?_) (fun h=>?_)
 ·exact done hI (by rw [show cM s=3 from ai (hq1.trans h)] <;> rfl)
 have e1:cM s=if df s z9=true then 2 else if df s oz=true then 1 else 0:=by
  rw [cM,ah (by rw [hq1,h]; decide)]
 clear hq hq1 h
 obtain ⟨q,hq⟩:∃ q,df s z9=q:=⟨_,rfl⟩
 have hq1:=hq
 refine ⟨fun t w'=>t=.bool q/\Inv w [] [] S w',?_,?_⟩
 ·unfold df z9 at hq
  refine bO ?_
  refine az (fun h=>⟨by rw [fE,h] at hq; rw [h,<- hq]; rfl,hI⟩) (fun h=>?_)
  rw [fE,h,fL] at hq
  refine bO ⟨?_,hI⟩
  rw [<- hq]; simp
 intro _ t _ w'
 rintro ⟨rfl,hI⟩
 refine az (fun h=>?_) (fun h=>?_)
 ·exact done hI (by rw [show cM s=2 from e1.trans (ai (hq1.trans h))] <;> rfl)
 rw [ah (by rw [hq1,h]; decide)] at e1
 clear hq hq1 h
 obtain ⟨q,hq⟩:∃ q,df s oz=q:=⟨_,rfl⟩
 have hq1:=hq
 refine ⟨fun t w'=>t=.bool q/\Inv w [] [] S w',?_,?_⟩
 ·unfold df oz at hq
  iterate 2
   refine bO ?_
   refine az (fun h=>⟨by rw [fE,h] at hq; rw [h,<- hq]; rfl,hI⟩) (fun h=>?_)
   rw [fE,h,fL] at hq
  refine bO ⟨?_,hI⟩
  rw [<- hq]; simp
 intro _ _ t _ w'
 rintro ⟨rfl,hI⟩
 refine az (fun h=>?_) (fun h=>?_)
 ·exact done hI (by rw [show cM s=1 from e1.trans (ai (hq1.trans h))] <;> rfl)
 ·exact done hI (by rw [show cM s=0 from e1.trans (ah (by rw [hq1,h]; decide))] <;> rfl)

theorem PL {t:T} {S:af} {cs:List Value} (h:RdT S cs t):Pure Tryz.prog V2 [.agg cs.toArray] S (.bool (fw t)):=by
 intro w hI
 obtain ⟨kv,rfl,_,_,hs,hks⟩:=RdT.iff.1 h
 obtain ⟨k,n,s,ks⟩:=t
 simp only [T.name,T.kids,T.kind,T.n] at hs hks ⊢
 refine Ht.2 ?_
 dsimp only[Ht,aL]
 refine bt hI fun b1 w' hI=>?_
 refine ag hI 0 rfl aP aH rfl ?_
 refine bo ?_
 rw [show fw (.mk k n s ks)=(decide (k=3) && (decide (s=⟨#[33]⟩) && decide (ks.length=0))) from rfl]
 cases h1:decide (k=3)
 ·refine rpG ?_
  exact done hI rfl
 ·refine rpG ?_
  refine ag hI 0 rfl bb aQ rfl ?_
  refine bO ?_
  cases h2:decide (s=⟨#[33]⟩)
  ·refine rpG ?_
   exact done hI rfl
  ·refine rpG ?_
   refine ag hI 0 rfl al aj rfl ?_
   refine aC hks ae ?_
   refine bo ?_
   refine rpG ?_
   exact done hI (by simp)

theorem o3 {t:T} {S:af} {cs:List Value} (h:RdT S cs t):Pure Tryz.prog PA [.agg cs.toArray] S (.bool (cF t)):=by
 intro w hI
 obtain ⟨kv,rfl,_,_,hs,hks⟩:=RdT.iff.1 h
 obtain ⟨k,n,s,ks⟩:=t
 simp only [T.name,T.kids,T.kind,T.n] at hs hks ⊢
 refine zz.2 ?_
 dsimp only[zz,aL]
 refine bt hI fun b1 w' hI=>?_
 refine ag hI 0 rfl aP aH rfl ?_
 refine bo ?_
 rw [show cF (.mk k n s ks)=(decide (k=3) && (mM s && (!fe s ks.length && decide (cM s=0)))) from rfl]
 cases h1:decide (k=3)
 ·refine rpG ?_
  exact done hI rfl
 ·refine rpG ?_
  refine ag hI 0 rfl bb aQ rfl ?_
  refine Run.callPure DD Dj hI (y0 s hs S) fun w' hI=>?_
  cases h2:mM s
  ·refine rpG ?_
   exact done hI rfl
  ·refine rpG ?_
   refine ag hI 0 rfl bb aQ rfl ?_
   refine ag hI 0 rfl al aj rfl ?_
   refine aC hks ae ?_
   refine Run.callPure tY td hI (pn s _ S) fun w' hI=>?_
   refine bX ?_
   cases h3:fe s ks.length
   ·refine rpG ?_
    refine ag hI 0 rfl bb aQ rfl ?_
    refine Run.callPure ge gi hI (eM s S) fun w' hI=>?_
    refine bo ?_
    refine rpG ?_
    exact done hI rfl
   ·refine rpG ?_
    exact done hI rfl

theorem Mk {t:T} {S:af} {cs:List Value} (h:RdT S cs t):Pure Tryz.prog Sb [.agg cs.toArray] S (.bool (fw t || (cF t || cz t))):=by
 intro w hI
 have h0:=h
 obtain ⟨kv,rfl,_,_,hs,hks⟩:=RdT.iff.1 h
 obtain ⟨k,n,s,ks⟩:=t
 simp only [T.name,T.kids,T.kind,T.n] at h0 hs hks ⊢
 refine DF.2 ?_
 dsimp only[DF,aL]
 refine bt hI fun b1 w' hI=>?_
 refine ar hI 0 ad rfl rfl ?_
 refine Run.callPure RD RS hI (PL h0) fun w' hI=>?_
 cases h1:fw (.mk k n s ks)
 ·refine rpG ?_
  refine ar hI 0 ad rfl rfl ?_
  refine Run.callPure qQ qD hI (o3 h0) fun w' hI=>?_
  cases h2:cF (.mk k n s ks)
  ·refine rpG ?_
   refine ag hI 0 rfl aP aH rfl ?_
   refine bo ?_
   rw [show cz (.mk k n s ks)=(decide (k=3) && fe s ks.length) from rfl]
   cases h3:decide (k=3)
   ·refine rpG ?_
    exact done hI rfl
   ·refine rpG ?_
    refine ag hI 0 rfl bb aQ rfl ?_
    refine ag hI 0 rfl al aj rfl ?_
    refine aC hks ae ?_
    refine Run.callPure tY td hI (pn s _ S) fun w' hI=>?_
    refine rpG ?_
    exact done hI rfl
  ·refine rpG ?_
   exact done hI rfl
 ·refine rpG ?_
  exact done hI rfl

theorem Nr {t:T} (h:wT t<=1048576):eq t<=4611686018427387904:=by
 have:=Mr t
 omega
theorem Bv {t:T} {S:af} {cs:List Value} (h:RdT S cs t) (hc:wT t<=1048576):Pure Tryz.prog IX [.agg cs.toArray] S (.bool (eX t)):=by
 intro w hI
 have hl:=h.length
 refine sW.2 ?_
 dsimp only[sW,aL]
 refine bt hI fun b1 w' hI=>?_
 refine ar hI 0 ad rfl (by simpa [Value.cells] using hl) ?_
 refine Run.callPure mW mC hI (ki h (Nr hc)) fun w' hI=>?_
 rw [eX]
 cases h1:cn t
 ·refine rpG ?_
  exact done hI rfl
 ·refine rpG ?_
  refine ar hI 0 ad rfl (by simpa [Value.cells] using hl) ?_
  refine Run.callPure QJ PQ hI (Mk h) fun w' hI=>?_
  refine rpG ?_
  exact done hI rfl


theorem Uy {ts:List T} {t:T} (h:t∈ts):wT t<=wL ts:=by
 induction ts with
 | nil=>simp at h
 | cons u us ih=>
  rw [wL]
  rcases bG.1 h with rfl|h
  ·omega
  ·have:=ih h; omega
theorem mV {c:C} {S:af} {cs:List Value} (h:RdC S cs c) (hc:wC c<=1048576):Pure Tryz.prog E8 [.agg cs.toArray] S (.bool (bN c)):=by
 intro w hI
 obtain ⟨hd,ks,rfl,h1,h2⟩:=h
 have h1':=h1
 obtain ⟨kv,rfl,g1,g2,g3,g4⟩:=RdT.iff.1 h1
 have hlen:=h2.le
 simp only [maxLen] at hlen
 unfold wC at hc
 refine pj.2 ?_
 dsimp only[pj,aL]
 refine bt hI fun b1 w' hI=>?_
 refine ⟨fun i w'=>∃ k:Nat,k<=c.body.length/\k<=7/\i=.int .i64 k/\(∀ j (h:j<c.body.length),j<k->eX c.body[j]=true)/\Inv w [] [.blk b1 (.cells #[.int .i64 c.head.kind,.int .i64 c.head.n,.string c.head.name,kv,ks] au)] S w',
  fun i _=>c.body.length - (intOf i).toNat,⟨0,be _,by omega,rfl,fun j _ h=>by omega,hI⟩,?_⟩
 intro t3 _ _ _ _ _ _ _ _ _ _ _ _ _ _ _ _ _ _ _ w'
 rintro ⟨k,hk,hk7,rfl,hrel,hI⟩
 refine ⟨fun t w'=>t=.bool (decide (k<c.body.length/\k<=6))/\Inv w [] [.blk b1 (.cells #[.int .i64 c.head.kind,.int .i64 c.head.n,.string c.head.name,kv,ks] au)] S w',?_,?_⟩
 ·refine ag hI 0 rfl bp aj rfl ?_
  refine aC h2 ae ?_
  refine bF ?_
  by_cases hki:(k:Int)<c.body.length
  ·rw [aM hki]
   refine rpG ?_
   refine fU ?_
   refine rpG ?_
   refine ⟨?_,hI⟩
   congr 1
   rw [mP]; simp; omega
  ·rw [aW hki]
   refine rpG ?_
   exact ⟨by rw [aW (by omega)],hI⟩
 intro t _ _ _ _ _ _ _ _ w'
 rintro ⟨rfl,hI⟩
 refine aI (fun hki=>?_) (fun hki=>?_)
 ·obtain ⟨hk',hk6⟩:=hki
  refine ag hI 0 rfl bp aj rfl ?_
  refine cE hI h2 ae ad hk' (fun _ _=>RdT.length) fun cs' hcs'=>?_
  have hwm:=Uy (bA hk')
  refine Run.callPure FK F7 hI (Bv hcs' (by omega)) fun w' hI=>?_
  refine bX ?_
  refine az (fun hb=>done hI ?_) (fun hb=>?_)
  ·have hb':eX c.body[k]=false:=by simpa using hb
   have:c.body.all eX=false:=by
    rw [<- U9,dE]
    intro hall
    rw [hall _ (bA hk')] at hb'
    cases hb'
   rw [bN,this]
   simp
  ·have hb':eX c.body[k]=true:=by simpa using hb
   refine bq (by omega) ?_
   refine ⟨⟨k+1,hk',by omega,rfl,fun j hj hjk=>?_,hI⟩,by simp [intOf]; omega⟩
   by_cases e:j=k
   ·subst e; exact hb'
   ·exact hrel j hj (by omega)
 ·refine ag hI 0 rfl bp aj rfl ?_
  refine aC h2 ae ?_
  refine fU ?_
  rw [bN]
  by_cases hle:c.body.length<=6
  ·have hall:c.body.all eX=true:=by
    rw [dE]
    intro x hx
    obtain ⟨j,hj,rfl⟩:=Ak hx
    exact hrel j hj (by omega)
   rw [aM (show (c.body.length:Int)<=6 by omega),aM hle,hall]
   refine rpG ?_
   refine aB cK ?_
   refine eE hI 0 [.int .i64 c.head.kind,.int .i64 c.head.n,.string c.head.name,kv] ad rfl rfl ?_ ?_
   ·intro j v hj
    match j with
    | 0|1|2|3=>exact hj
    | j+4=>simp at hj
   refine Run.callPure mW mC hI (ki h1' (Nr (by omega))) fun w' hI=>?_
   cases hv:cn c.head
   ·refine rpG ?_
    exact done hI rfl
   ·refine rpG ?_
    refine aB cK ?_
    refine eE hI 0 [.int .i64 c.head.kind,.int .i64 c.head.n,.string c.head.name,kv] ad rfl rfl ?_ ?_
    ·intro j v hj
     match j with
     | 0|1|2|3=>exact hj
     | j+4=>simp at hj
    refine Run.callPure qQ qD hI (o3 h1') fun w' hI=>?_
    refine rpG ?_
    exact done hI rfl
  ·rw [aW (show ¬ (c.body.length:Int)<=6 by omega),aW hle]
   refine rpG ?_
   exact done hI rfl

theorem kW {xs:List C} {S:af} {v:Value} (h:RdSl S 5 (RdC S) v xs) (hc:wP xs<=1048576):Pure Tryz.prog B7 [v] S (.bool (dx xs)):=by
 intro w hI
 have hlen:=h.le
 simp only [maxLen] at hlen
 refine nL.2 ?_
 dsimp only[nL,aL]
 refine ⟨fun i w'=>∃ k:Nat,k<=xs.length/\k<=20+1/\i=.int .i64 k/\(∀ j (h:j<xs.length),j<k->bN xs[j]=true)/\Inv w [] [] S w',
  fun i _=>xs.length - (intOf i).toNat,⟨0,be _,by omega,rfl,fun j _ h=>by omega,hI⟩,?_⟩
 intro t3 _ _ _ _ _ _ _ _ _ _ _ _ _ _ _ _ _ w'
 rintro ⟨k,hk,hk7,rfl,hrel,hI⟩
 refine ⟨fun t w'=>t=.bool (decide (k<xs.length/\k<=20))/\Inv w [] [] S w',?_,?_⟩
 ·refine aC h cD ?_
  refine bF ?_
  by_cases hki:(k:Int)<xs.length
  ·rw [aM hki]
   refine rpG ?_
   refine fU ?_
   refine rpG ?_
   refine ⟨?_,hI⟩
   congr 1
   rw [mP]; simp; omega
  ·rw [aW hki]
   refine rpG ?_
   exact ⟨by rw [aW (by omega)],hI⟩
 intro t _ _ _ _ _ _ _ w'
 rintro ⟨rfl,hI⟩
 refine aI (fun hki=>?_) (fun hki=>?_)
 ·obtain ⟨hk',hk6⟩:=hki
  refine cE hI h cD bz hk' (fun _ _=>RdC.length) fun cs' hcs'=>?_
  have hwm:=LM (bA hk')
  refine Run.callPure pL p9 hI (mV hcs' (by omega)) fun w' hI=>?_
  refine bX ?_
  refine az (fun hb=>done hI ?_) (fun hb=>?_)
  ·have hb':bN xs[k]=false:=by simpa using hb
   have:xs.all bN=false:=by
    rw [<- U9,dE]
    intro hall
    rw [hall _ (bA hk')] at hb'
    cases hb'
   rw [dx,this,lP]
  ·have hb':bN xs[k]=true:=by simpa using hb
   refine bq (by omega) ?_
   refine ⟨⟨k+1,hk',by omega,rfl,fun j hj hjk=>?_,hI⟩,by simp [intOf]; omega⟩
   by_cases e:j=k
   ·subst e; exact hb'
   ·exact hrel j hj (by omega)
 ·refine aC h cD ?_
  refine fU ?_
  rw [dx]
  refine done hI ?_
  by_cases hle:xs.length<=20
  ·have hall:xs.all bN=true:=by
    rw [dE]
    intro x hx
    obtain ⟨j,hj,rfl⟩:=Ak hx
    exact hrel j hj (by omega)
   rw [aM (show (xs.length:Int)<=20 by omega),aM hle,hall]; rfl
  ·rw [aW (show ¬ (xs.length:Int)<=20 by omega),aW hle]; rfl

theorem Rp (s:ByteArray) (S:af):Pure Tryz.prog Yr [.string s] S (.bool (decide (0<cM s))):=by
 intro w hI
 refine LG.2 ?_
 dsimp only[LG,aL]
 refine Run.callPure Mn NQ hI (EI s S) fun w' hI=>?_
 refine aq rfl ?_
 refine aq rfl ?_
 refine dC ?_
 exact done hI rfl
theorem oP {t:T} {S:af} {cs:List Value} (h:RdT S cs t):Pure Tryz.prog Oq [.agg cs.toArray] S (.bool (cz t)):=by
 intro w hI
 obtain ⟨kv,rfl,_,_,hs,hks⟩:=RdT.iff.1 h
 obtain ⟨k,n,s,ks⟩:=t
 simp only [T.name,T.kids,T.kind,T.n] at hs hks ⊢
 refine zn.2 ?_
 dsimp only[zn,aL]
 refine bt hI fun b1 w' hI=>?_
 refine ag hI 0 rfl aP aH rfl ?_
 refine bo ?_
 rw [show cz (.mk k n s ks)=(decide (k=3) && fe s ks.length) from rfl]
 cases h3:decide (k=3)
 ·refine rpG ?_
  exact done hI rfl
 ·refine rpG ?_
  refine ag hI 0 rfl bb aQ rfl ?_
  refine ag hI 0 rfl al aj rfl ?_
  refine aC hks ae ?_
  refine Run.callPure sN sD hI (pY s _ S) fun w' hI=>?_
  refine rpG ?_
  exact done hI rfl
theorem oL {t:T} {S:af} {cs:List Value} (h:RdT S cs t):Pure Tryz.prog Qh [.agg cs.toArray] S (.bool (cF t)):=by
 intro w hI
 have h0:=h
 obtain ⟨kv,rfl,_,_,hs,hks⟩:=RdT.iff.1 h
 obtain ⟨k,n,s,ks⟩:=t
 simp only [T.name,T.kids,T.kind,T.n] at h0 hs hks ⊢
 refine zJ.2 ?_
 dsimp only[zJ,aL]
 refine bt hI fun b1 w' hI=>?_
 refine ag hI 0 rfl aP aH rfl ?_
 refine bo ?_
 have hb:cz (.mk k n s ks)=(decide (k=3) && fe s ks.length):=rfl
 rw [show cF (.mk k n s ks)=(decide (k=3) && (mM s && (!fe s ks.length && decide (cM s=0)))) from rfl]
 cases h1:decide (k=3)
 ·refine rpG ?_
  exact done hI rfl
 ·rw [h1] at hb
  refine rpG ?_
  refine ag hI 0 rfl bb aQ rfl ?_
  refine Run.callPure tU tm hI (r8 s hs S) fun w' hI=>?_
  cases h2:mM s
  ·refine rpG ?_
   exact done hI rfl
  ·refine rpG ?_
   refine ag hI 0 rfl bb aQ rfl ?_
   refine Run.callPure VZ Vt hI (Rp s S) fun w' hI=>?_
   refine bX ?_
   rw [V0]
   cases h3:decide (cM s=0)
   ·refine rpG ?_
    exact done hI (by simp)
   ·refine rpG ?_
    refine ar hI 0 ad rfl rfl ?_
    refine Run.callPure qt qx hI (oP h0) fun w' hI=>?_
    refine bX ?_
    refine rpG ?_
    exact done hI (by rw [hb]; simp)
theorem zg {t:T} {S:af} {cs:List Value} (h:RdT S cs t):Pure Tryz.prog SB [.agg cs.toArray] S (.bool (XB t)):=by
 intro w hI
 obtain ⟨kv,rfl,_,_,hs,hks⟩:=RdT.iff.1 h
 obtain ⟨k,n,s,ks⟩:=t
 simp only [T.name,T.kids,T.kind,T.n] at hs hks ⊢
 refine Ef.2 ?_
 dsimp only[Ef,aL]
 refine bt hI fun b1 w' hI=>?_
 refine ag hI 0 rfl aP aH rfl ?_
 refine bo ?_
 rw [show XB (.mk k n s ks)=(decide (k=3) && decide (ks.length=0)) from rfl]
 cases h3:decide (k=3)
 ·refine rpG ?_
  exact done hI rfl
 ·refine rpG ?_
  refine ag hI 0 rfl al aj rfl ?_
  refine aC hks ae ?_
  refine bo ?_
  refine rpG ?_
  exact done hI (by simp)
theorem DR {t:T} {S:af} {cs:List Value} (h:RdT S cs t):Pure Tryz.prog VC [.agg cs.toArray] S (.bool (fw t)):=by
 intro w hI
 have h0:=h
 obtain ⟨kv,rfl,_,_,hs,hks⟩:=RdT.iff.1 h
 obtain ⟨k,n,s,ks⟩:=t
 simp only [T.name,T.kids,T.kind,T.n] at h0 hs hks ⊢
 refine HT.2 ?_
 dsimp only[HT,aL]
 refine bt hI fun b1 w' hI=>?_
 refine ar hI 0 ad rfl rfl ?_
 refine Run.callPure Ec Dh hI (zg h0) fun w' hI=>?_
 rw [show fw (.mk k n s ks)=(decide (k=3) && (decide (s=⟨#[33]⟩) && decide (ks.length=0))) from rfl]
 cases h1:XB (.mk k n s ks)
 ·refine rpG ?_
  refine done hI ?_
  replace h1:(decide (k=3) && decide (ks.length=0))=false:=h1
  cases h2:decide (k=3)
  ·rfl
  ·rw [h2,dM] at h1
   rw [h1,lP]; rfl
 ·refine rpG ?_
  refine ag hI 0 rfl bb aQ rfl ?_
  refine bO ?_
  refine rpG ?_
  refine done hI ?_
  replace h1:(decide (k=3) && decide (ks.length=0))=true:=h1
  rw [bw] at h1
  rw [h1.1,h1.2]; simp
theorem px {t:T} {S:af} {cs:List Value} (h:RdT S cs t):Pure Tryz.prog IO [.agg cs.toArray] S (.bool (eX t)):=by
 intro w hI
 have hl:=h.length
 refine tw.2 ?_
 dsimp only[tw,aL]
 refine bt hI fun b1 w' hI=>?_
 refine ar hI 0 ad rfl (by simpa [Value.cells] using hl) ?_
 refine Run.callPure hY gS hI (fO h) fun w' hI=>?_
 rw [eX]
 cases h1:cn t
 ·refine rpG ?_
  exact done hI rfl
 ·refine rpG ?_
  refine ar hI 0 ad rfl (by simpa [Value.cells] using hl) ?_
  refine Run.callPure qW qY hI (oL h) fun w' hI=>?_
  cases h2:cF t
  ·refine rpG ?_
   refine ar hI 0 ad rfl (by simpa [Value.cells] using hl) ?_
   refine Run.callPure qt qx hI (oP h) fun w' hI=>?_
   cases h3:cz t
   ·refine rpG ?_
    refine ar hI 0 ad rfl (by simpa [Value.cells] using hl) ?_
    refine Run.callPure HW HL hI (DR h) fun w' hI=>?_
    refine rpG ?_
    exact done hI (by simp)
   ·refine rpG ?_
    exact done hI (by simp)
  ·refine rpG ?_
   exact done hI (by simp)

theorem qu {α:Type} (p:α->Bool):∀ xs:List α,(!xs.any fun x=>!p x)=xs.all p
 | []=>rfl
 | x::xs=>by
  rw [fE,Pp,<- qu p xs]
  cases p x <;> simp

theorem vu {x:T} {S:af} {cs:List Value} (h:RdT S cs x):Pure Tryz.prog qd [.agg cs.toArray] S (.bool (!eX x)):=by
 intro w hI
 have hl:=h.length
 refine od.2 ?_
 dsimp only[od,aL]
 refine bt hI fun b1 w' hI=>?_
 refine ar hI 0 ad rfl (by simpa [Value.cells] using hl) ?_
 refine Run.callPure s0 tL hI (px h) fun w' hI=>?_
 refine bX (done hI rfl)
theorem n8 {xs:List T} {S:af} {v:Value} (h:RdSl S 4 (RdT S) v xs):Pure Tryz.prog H6 [v] S (.bool (eA xs)):=by
 intro w hI
 refine rr.2 ?_
 dsimp only[rr,aL]
 refine aC h ae ?_
 refine fU ?_
 rw [eA]
 by_cases hle:xs.length<=6
 ·rw [aM (show (xs.length:Int)<=6 by omega),aM hle]
  refine rpG ?_
  have hcb:Cb Tryz.prog qd _ [] S (fun _:Unit=>[]) (fun _=>True) (fun _ x=>(!eX x,())) (fun v x=>∃ cs,v=.agg cs.toArray/\RdT S cs x) xs:=
   Cb.pure [] yy yA fun x v _=>by
    rintro ⟨cs,rfl,hcs⟩ w1 hI
    exact (vu hcs w1 hI).mono fun e w' ⟨he,hI⟩=>⟨_,_,_,he,hI,Ext.refl _ _ _,rfl,rfl,rfl⟩
  refine Run.call0 dj dn hI (ez hcb h (st:=()) trivial) fun v' I' S' w'=>?_
  rintro ⟨rfl,rfl,rfl⟩ _ hI
  refine bX ?_
  refine rpG ?_
  refine done hI ?_
  rw [gu (fun x=>!eX x) xs,qu]; rfl
 ·rw [aW (show ¬ (xs.length:Int)<=6 by omega),aW hle]
  refine rpG ?_
  exact done hI rfl
theorem xR {c:C} {S:af} {cs:List Value} (h:RdC S cs c):Pure Tryz.prog Fg [.agg cs.toArray] S (.bool (bN c)):=by
 intro w hI
 obtain ⟨hd,ks,rfl,h1,h2⟩:=h
 have h1':=h1
 obtain ⟨kv,rfl,g1,g2,g3,g4⟩:=RdT.iff.1 h1
 have hfin:bN c=(cn c.head && (cF c.head && eA c.body)):=by
  unfold bN eA
  cases cn c.head <;> cases cF c.head <;> simp
 refine pl.2 ?_
 dsimp only[pl,aL]
 rw [hfin]
 refine bt hI fun b1 w' hI=>?_
 refine aB cK ?_
 refine eE hI 0 [.int .i64 c.head.kind,.int .i64 c.head.n,.string c.head.name,kv] ad rfl rfl ?_ ?_
 ·intro j v hj
  match j with
  | 0|1|2|3=>exact hj
  | j+4=>simp at hj
 refine Run.callPure hY gS hI (fO h1') fun w' hI=>?_
 cases hv:cn c.head
 ·refine rpG ?_
  exact done hI rfl
 ·refine rpG ?_
  refine aB cK ?_
  refine eE hI 0 [.int .i64 c.head.kind,.int .i64 c.head.n,.string c.head.name,kv] ad rfl rfl ?_ ?_
  ·intro j v hj
   match j with
   | 0|1|2|3=>exact hj
   | j+4=>simp at hj
  refine Run.callPure qW qY hI (oL h1') fun w' hI=>?_
  cases hp:cF c.head
  ·refine rpG ?_
   exact done hI rfl
  ·refine rpG ?_
   refine ag hI 0 rfl bp aj rfl ?_
   refine Run.callPure rV rW hI (n8 h2) fun w' hI=>?_
   refine rpG ?_
   exact done hI rfl

theorem su {x:C} {S:af} {cs:List Value} (h:RdC S cs x):Pure Tryz.prog mA [.agg cs.toArray] S (.bool (!bN x)):=by
 intro w hI
 have hl:=h.length
 refine lJ.2 ?_
 dsimp only[lJ,aL]
 refine bt hI fun b1 w' hI=>?_
 refine ar hI 0 bz rfl (by simpa [Value.cells] using hl) ?_
 refine Run.callPure Cr Cn hI (xR h) fun w' hI=>?_
 refine bX (done hI rfl)
theorem lO {xs:List C} {S:af} {v:Value} (h:RdSl S 5 (RdC S) v xs):Pure Tryz.prog BS [v] S (.bool (dx xs)):=by
 intro w hI
 refine nQ.2 ?_
 dsimp only[nQ,aL]
 refine aC h cD ?_
 refine fU ?_
 rw [dx]
 by_cases hle:xs.length<=20
 ·rw [aM (show (xs.length:Int)<=20 by omega),aM hle]
  refine rpG ?_
  have hcb:Cb Tryz.prog mA _ [] S (fun _:Unit=>[]) (fun _=>True) (fun _ x=>(!bN x,())) (fun v x=>∃ cs,v=.agg cs.toArray/\RdC S cs x) xs:=
   Cb.pure [] vi vA fun x v _=>by
    rintro ⟨cs,rfl,hcs⟩ w1 hI
    exact (su hcs w1 hI).mono fun e w' ⟨he,hI⟩=>⟨_,_,_,he,hI,Ext.refl _ _ _,rfl,rfl,rfl⟩
  refine Run.call0 iK iM hI (jt hcb h (st:=()) trivial) fun v' I' S' w'=>?_
  rintro ⟨rfl,rfl,rfl⟩ _ hI
  refine bX ?_
  refine rpG ?_
  refine done hI ?_
  rw [gu (fun x=>!bN x) xs,qu]; rfl
 ·rw [aW (show ¬ (xs.length:Int)<=20 by omega),aW hle]
  refine rpG ?_
  exact done hI rfl
theorem ol {xs:List T} {S:af} {v:Value} (h:RdSl S 4 (RdT S) v xs):Pure Tryz.prog FC [v] S (.bool (eA xs)):=by
 intro w hI
 refine sg.2 ?_
 dsimp only[sg,aL]
 refine Run.callPure rV rW hI (n8 h) fun w' hI=>done hI rfl
end
section
open Go Go.RowKit
attribute [local irreducible] Run CondV aw aN

def RowRd (S:af) (v:Value) (e:TypeId) (k n:Nat) (xs:List Value):Prop:=
 xs.length=n * k/\((v=.slice none 0 0/\n=0) ∨ ∃ g cap cur,v=.slice (some ⟨g,0,none⟩) n cap/\S g=some (.cells cur e)/\n<=cap/\cap<=maxLen/\cur.size=cap * k/\cur.toList.take (n * k)=xs)
theorem Inv.lend {w0 w:World} {X:List Nat} {A:List Item} {S:af} {v:Value} {e:TypeId} {k n:Nat} {xs:List Value} (h:Inv w0 X (A++[.row v e k n xs]) S w) :
  ∃ S',Sle S S'/\RowRd S' v e k n xs/\Inv w0 X A S' w/\∀ B w',Inv w0 X B S' w'->Inv w0 X (B++[.row v e k n xs]) S w':=by
 have hm:w.ownsRow 0 e k v n xs:=h.its (.row v e k n xs) (by simp)
 obtain ⟨hl,hm⟩:=hm
 rcases hm with ⟨rfl,rfl⟩|⟨g,cap,cur,rfl,_,hg,hnc,hcm,hcs,ht⟩
 ·have:xs=[]:=gr (by rw [hl,Br])
  subst this
  exact ⟨S,Sle.refl S,⟨hl,.inl ⟨rfl,rfl⟩⟩,h.sub (dr _ _),fun B w' hB=>hB.rowNil e k⟩
 ·have hf:bI (A++[Item.blk g (.cells cur e)])=bI (A++[Item.row (.slice (some ⟨g,0,none⟩) n cap) e k n xs]):=by
   simp [bI,Item.foot,Value.ownBlock]
  have hg':g∈bI (A++[Item.row (.slice (some ⟨g,0,none⟩) n cap) e k n xs]):=by simp [bI,Item.foot,Value.ownBlock]
  have h':Inv w0 X (A++[Item.blk g (.cells cur e)]) S w:=by
   refine ⟨h.size,h.os,h.tape,h.output,h.old,fun it hit=>?_,by rw [hf]; exact h.nd,by rw [hf]; exact h.new,by rw [hf]; exact h.pub⟩
   rcases bJ.1 hit with hit|hit
   ·exact h.its it (dg _ hit)
   ·simp at hit
    subst hit
    exact hg
  obtain ⟨h1,h2⟩:=h'.publishLast
  refine ⟨jj S g (.cells cur e),h2,⟨hl,.inr ⟨g,cap,cur,rfl,by simp [jj],hnc,hcm,hcs,ht⟩⟩,h1,fun B w' hB=>?_⟩
  have hpg:=hB.pub g (.cells cur e) (by simp [jj])
  have hfB:bI (B++[Item.row (.slice (some ⟨g,0,none⟩) n cap) e k n xs])=bI B++[g]:=by simp [bI,Item.foot,Value.ownBlock]
  refine ⟨hB.size,hB.os,hB.tape,hB.output,hB.old,fun it hit=>?_,?_,?_,?_⟩
  ·rcases bJ.1 hit with hit|hit
   ·exact hB.its it hit
   ·simp at hit
    subst hit
    exact ⟨hl,.inr ⟨g,cap,cur,rfl,be _,hpg.1,hnc,hcm,hcs,ht⟩⟩
  ·rw [hfB,oN]
   refine ⟨hB.nd,by simp,fun a ha b hb=>?_⟩
   simp at hb
   subst hb
   intro e'
   subst e'
   exact hpg.2 ha
  ·intro c hc
   rw [hfB] at hc
   rcases bJ.1 hc with hc|hc
   ·exact hB.new c hc
   ·simp at hc
    subst hc
    exact h.new _ hg'
  ·intro c o hc
   have hne:c≠g:=fun e'=>by
    subst e'
    exact (h.pub c o hc).2 hg'
   have:=hB.pub c o (by simp only [jj]; rw [ah hne]; exact hc)
   refine ⟨this.1,?_⟩
   rw [hfB]
   intro hc'
   rcases bJ.1 hc' with hc'|hc'
   ·exact this.2 hc'
   ·simp at hc'
    exact hne hc'
theorem UJ {α:Type} (f:α->List Value) (k:Nat) (hf:∀ y,(f y).length=k):∀ (ys:List α) (i:Nat) (h:i<ys.length),((ys.flatMap f).drop (i * k)).take k=f ys[i]
 | [],i,h=>by simp at h
 | y::ys,0,h=>by
  rw [rF,Br,Lo,RT (by rw [hf]; exact aR _),AQ (by rw [hf]; exact aR _)]
  rfl
 | y::ys,i+1,h=>by
  rw [rF,lu,qy,<- TU,List.drop_left' (hf y)]
  exact UJ f k hf ys i (by simpa using h)
theorem RowRd.rd {α:Type} {S:af} {v:Value} {e:TypeId} {k:Nat} {f:α->List Value} {R:List Value->α->Prop} {ys:List α} (hf:∀ y,(f y).length=k) (hR:∀ y∈ys,R (f y) y)
  (h:RowRd S v e k ys.length (ys.flatMap f)):RdSl S k R v ys:=by
 obtain ⟨hl,h⟩:=h
 rcases h with ⟨rfl,h0⟩|⟨g,cap,cur,rfl,hS,hnc,hcm,hcs,ht⟩
 ·have:ys=[]:=gr h0
  subst this
  exact ⟨none,0,rfl,aR _,be _,.inl rfl⟩
 ·refine ⟨_,cap,rfl,hnc,hcm,.inr ⟨g,0,cur,e,(0,0),rfl,hS,fun i hi=>?_⟩⟩
  have:=UJ f k hf ys i hi
  have hik:i * k+k<=ys.length * k:=by rw [<- lu]; exact jr k hi
  rw [<- ht,Lc,mJ,kD (by omega)] at this
  rw [aO,bR,this]
  exact hR _ (bA hi)

def ints (ns:List Int):List Value:=ns.flatMap fun n=>[.int .i64 n]
abbrev dt (v:Value) (ns:List Int):Item:=.row v cc 1 ns.length (ints ns)
theorem u6 (ns:List Int) (n:Int):ints ns++[.int .i64 n]=ints (ns++[n]):=by simp [ints]
theorem RowRd.ints {S:af} {v:Value} {e:TypeId} {ns:List Int} (h:RowRd S v e 1 ns.length (ints ns)):RdSl S 1 i5 v ns:=
 RowRd.rd (f:=fun n=>[Value.int .i64 n]) (fun _=>rfl) (fun _ _=>rfl) h
def jO (l:List Int) (n:Int):Bool:=l.any fun x=>decide (n=x)
def jd (l:List Int) (n:Int):List Int:=if jO l n=true then l else l++[n]
theorem MS (l:List Int) (n:Int):(jd l n).length<=l.length+1:=by
 unfold jd
 split <;> simp

theorem lz (s:Int) {xs:List Int} {S:af} {v:Value} (h:RdSl S 1 i5 v xs) :
  Pure Tryz.prog JP [v,.int .i64 s] S (.int .i64 (ce (σ:=Unit) (fun _ x=>(decide (s=x),())) () xs 0).1):=by
 intro w hI
 have hlen:=h.le
 simp only [maxLen] at hlen
 refine uA.2 ?_
 dsimp only[uA,aZ]
 refine aC h c5 ?_
 refine ⟨fun i w'=>∃ k:Nat,k<=xs.length/\i=.int .i64 k/\ce (σ:=Unit) (fun _ x=>(decide (s=x),())) () (xs.drop k) k=ce (σ:=Unit) (fun _ x=>(decide (s=x),())) () xs 0/\Inv w [] [] S w',
  fun i _=>xs.length - (intOf i).toNat,⟨0,be _,rfl,rfl,hI⟩,?_⟩
 intro t8 _ _ _ _ _ _ _ _ _ _ _ _ w'
 rintro ⟨k,hk,rfl,hrel,hI⟩
 refine bF ?_
 refine aI (fun hki=>?_) (fun hki=>?_)
 ·have hk':k<xs.length:=by omega
  rw [cZ hk',ce] at hrel
  refine io hI h c5 aH hk' (fun cs hcs=>hcs) ?_
  refine bo ?_
  refine aI (fun he=>done hI ?_) (fun he=>?_)
  ·rw [<- hrel,ai (by simpa using he)]
  ·refine bq (by omega) ?_
   rw [ah (by simpa using he)] at hrel
   exact ⟨⟨k+1,hk',rfl,hrel,hI⟩,by simp [intOf]; omega⟩
 ·have:k=xs.length:=by omega
  subst this
  rw [dL,ce] at hrel
  exact done hI (by rw [<- hrel])
theorem nh (s:Int) {xs:List Int} {S:af} {v:Value} (h:RdSl S 1 i5 v xs):Pure Tryz.prog AV [v,.int .i64 s] S (.bool (jO xs s)):=by
 intro w hI
 refine nP.2 ?_
 dsimp only[nP,aZ]
 refine Run.callPure mG mO hI (lz s h) fun w' hI=>?_
 refine mY (done hI ?_)
 rw [(kA _ xs () 0).1,gu]; rfl
theorem Bm {σ:Type} {f:FuncId} {fn:Func} {cap:List Value} {S:af} {It:σ->List Item} {ok:σ->Prop} {step:σ->Int->Bool × σ} {xs:List Int} {v:Value}
  (hcb:Cb Tryz.prog f fn cap S It ok step (fun v x=>v=.int .i64 x) xs) (h:RdSl S 1 i5 v xs) {st:σ} (hok:ok st) :
  Tri Tryz.prog Af [v,fv f cap] (It st) S fun r I' S'=>r=.int .i64 (ce step st xs 0).1/\I'=It (ce step st xs 0).2/\S'=S:=by
 intro w hI
 have hlen:=h.le
 simp only [maxLen] at hlen
 refine mX.2 ?_
 dsimp only[mX,aZ]
 refine aC h c5 ?_
 refine ⟨fun i w'=>∃ (k:Nat) (st':σ),k<=xs.length/\i=.int .i64 k/\ok st'/\ce step st' (xs.drop k) k=ce step st xs 0/\Inv w (bI (It st)) (It st') S w',fun i _=>xs.length - (intOf i).toNat,
  ⟨0,st,be _,rfl,hok,rfl,hI⟩,?_⟩
 intro t8 _ _ _ _ _ _ _ _ _ _ _ _ w'
 rintro ⟨k,st',hk,rfl,hok',hrel,hI⟩
 refine bF ?_
 refine aI (fun hki=>?_) (fun hki=>?_)
 ·have hk':k<xs.length:=by omega
  have hm:=bA hk'
  have hstep:ce step st' (xs.drop k) k=if (step st' xs[k]).1 then ((k:Int),(step st' xs[k]).2) else ce step (step st' xs[k]).2 (xs.drop (k+1)) (k+1):=by
   rw [cZ hk',ce]
  refine io hI h c5 aH hk' (fun cs hcs=>hcs) ?_
  refine Run.callV (A:=[]) (args:=[.int .i64 xs[k]]) hcb.hf hcb.hn (by simpa using hI) (hcb.call st' _ _ hm hok' rfl) fun v' I' S' w'=>?_
  rintro ⟨rfl,rfl,rfl⟩ _ hI
  refine az (fun hb=>?_) (fun hb=>?_)
  ·rw [ai hb] at hstep
   refine ⟨_,_,_,rfl,by simpa using hI,Ext.refl _ _ _,?_,?_,rfl⟩
   ·rw [<- hrel,hstep]
   ·rw [<- hrel,hstep]
  ·refine bq (by omega) ?_
   rw [hb] at hstep
   refine ⟨⟨k+1,_,hk',rfl,hcb.keep st' _ hm hok' hb,?_,by simpa using hI⟩,by simp [intOf]; omega⟩
   rw [<- hrel,hstep]
   rfl
 ·have:k=xs.length:=by omega
  subst this
  rw [dL,ce] at hrel
  exact ⟨_,_,_,rfl,hI,Ext.refl _ _ _,by rw [<- hrel],by rw [<- hrel],rfl⟩
theorem vq {σ:Type} {f:FuncId} {fn:Func} {cap:List Value} {S:af} {It:σ->List Item} {ok:σ->Prop} {step:σ->Int->Bool × σ} {xs:List Int} {v:Value}
  (hcb:Cb Tryz.prog f fn cap S It ok step (fun v x=>v=.int .i64 x) xs) (h:RdSl S 1 i5 v xs) {st:σ} (hok:ok st) :
  Tri Tryz.prog tf [v,fv f cap] (It st) S fun r I' S'=>r=.bool (sB step st xs).1/\I'=It (sB step st xs).2/\S'=S:=by
 intro w hI
 refine jS.2 ?_
 dsimp only[jS,aZ]
 refine Run.call (A:=[]) xb xp (by simpa using hI) (Bm hcb h hok) fun v' I' S' w'=>?_
 rintro ⟨rfl,rfl,rfl⟩ _ hI
 refine mY ?_
 have he:=kA step xs st 0
 exact ⟨_,_,_,rfl,by simpa using hI,Ext.refl _ _ _,by rw [he.1],by rw [he.2],rfl⟩
theorem Ot (s:Int) {xs:List Int} {S:af} {v:Value} (h:RdSl S 1 i5 v xs):Pure Tryz.prog Vy [v,.int .i64 s] S (.bool (jO xs s)):=by
 intro w hI
 have hlen:=h.le
 simp only [maxLen] at hlen
 refine GX.2 ?_
 dsimp only[GX,aZ]
 refine ⟨fun i w'=>∃ k:Nat,k<=xs.length/\i=.int .i64 k/\jO (xs.drop k) s=jO xs s/\Inv w [] [] S w',fun i _=>xs.length - (intOf i).toNat,⟨0,be _,rfl,rfl,hI⟩,?_⟩
 intro t5 _ _ _ _ _ _ _ _ _ _ _ _ _ w'
 rintro ⟨k,hk,rfl,hrel,hI⟩
 refine aC h c5 ?_
 refine bF ?_
 refine aI (fun hki=>?_) (fun hki=>?_)
 ·have hk':k<xs.length:=by omega
  have hstep:jO (xs.drop k) s=(decide (s=xs[k]) || jO (xs.drop (k+1)) s):=yt _ xs k hk'
  refine io hI h c5 aH hk' (fun cs hcs=>hcs) ?_
  refine bo ?_
  refine aI (fun he=>done hI ?_) (fun he=>?_)
  ·rw [<- hrel,hstep,aM he.symm]; rfl
  ·refine bq (by omega) ?_
   exact ⟨⟨k+1,hk',rfl,by rw [<- hrel,hstep,aW (fun e=>he e.symm)]; rfl,hI⟩,by simp [intOf]; omega⟩
 ·have:k=xs.length:=by omega
  subst this
  exact done hI (by rw [<- hrel,dL]; rfl)
end
end Go.Proofs.YtgllldjiaglkcaaGreatDoor
