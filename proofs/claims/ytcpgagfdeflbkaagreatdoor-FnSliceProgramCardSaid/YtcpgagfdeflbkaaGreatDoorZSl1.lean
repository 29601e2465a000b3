/- The program's TermValid and what it calls. -/
import Derived.Test.YtcpgagfdeflbkaaGreatDoorZSl0
namespace Go.Proofs.YtcpgagfdeflbkaaGreatDoor
section
open Go Go.RowKit
attribute [local irreducible] Run CondV aq aK

theorem fa (n low high:Int) (S:ad):Pure Tryz.prog KZ [.int .i64 n,.int .i64 low,.int .i64 high] S (.bool (decide (low<=n) && decide (n<=high))):=by
 intro w hI
 refine yq.2 ?_
 dsimp only[yq,gM]
 refine eL ?_
 refine i3 (fun h=>?_) (fun h=>done hI (by rw [h]; rfl))
 refine eL ?_
 exact gg h (done hI (by rw [h]; rfl))
theorem oY (s:ByteArray) (hs:s.size<=maxLen) (S:ad):Pure Tryz.prog Dq [.string s] S (.bool (lc s)):=by
 intro w hI
 simp only [maxLen] at hs
 refine qR.2 ?_
 dsimp only[qR,aG]
 refine g8 aJ ?_
 refine ⟨fun i w'=>∃ k:Nat,k<=s.size/\i=.int .i64 k/\(s.data.toList.drop k).all p8=pD s/\Inv w [] [] S w',fun i _=>s.size - (intOf i).toNat,⟨0,aR _,rfl,rfl,hI⟩,?_⟩
 intro t6 _ _ _ _ _ _ _ _ _ _ _ _ _ _ _ w'
 rintro ⟨k,hk,rfl,hrel,hI⟩
 refine bL ?_
 refine aH (fun hki=>?_) (fun hki=>?_)
 ·have hk':k<s.size:=by omega
  have hstep:=Hu p8 s.data.toList k (by rw [mX]; exact hk')
  rw [IZ s k hk'] at hstep
  refine ⟨fun t w'=>t=.bool (!p8 s[k])/\Inv w [] [] S w',?_,?_⟩
  ·refine kz aJ hk' ?_
   refine bL ?_
   refine Gj (fun h=>⟨?_,hI⟩) (fun h=>?_)
   ·have h:=of_decide_eq_true h
    rw [p8,bg (show ¬ 97<=s[k].toNat by omega)]; rfl
   ·refine kz aJ hk' ?_
    refine eU ?_
    refine xG h ⟨?_,hI⟩
    have h:=of_decide_eq_false h
    rw [p8,aS (show 97<=s[k].toNat by omega),dU]
    by_cases h2:s[k].toNat<=122
    ·rw [aS h2,bg (by omega)]; rfl
    ·rw [bg h2,aS (by omega)]; rfl
  intro t _ _ _ _ _ _ _ _ _ w'
  rintro ⟨rfl,hI⟩
  refine aw (fun h=>done hI ?_) (fun h=>?_)
  ·simp at h
   rw [lc,<- hrel,hstep,h]; rfl
  ·simp at h
   refine bn (by omega) ?_
   refine ⟨⟨k+1,hk',rfl,by rw [<- hrel,hstep,h]; rfl,hI⟩,by simp [intOf]; omega⟩
 ·have:k=s.size:=by omega
  subst this
  have hl:pD s=true:=by rw [<- hrel,<- mX,dP]; rfl
  refine g8 aJ ?_
  refine Run.callPure fE fL hI (fa _ _ _ S) fun w' hI=>done hI ?_
  rw [lc,hl,dU]
  congr 1
  rw [oS]
  simp
  omega
theorem Dg (S:ad):Tri Tryz.prog I0 [] [] S (D3 S):=by
 intro w hI
 refine uw.2 ?_
 dsimp only[uw,oJ]
 refine qD (v:=fun b=>.slice (some ⟨b,0,none⟩) 15 15) (o:=.cells wD fB) hI (by kernel_rfl) fun b w' hI=>?_
 have hnew:w.heap.size<=b:=by
  rcases hI.new b (by simp [bu,Item.foot]) with h|h
  ·simp [bu] at h
  ·exact h
 obtain ⟨h1,h2⟩:=Inv.publishLast (L:=[]) hI
 exact ⟨_,_,_,rfl,h1,I6 hnew h2,rfl,h2,H5 (by simp [mE]; rfl)⟩
theorem sP (s:ByteArray) {xs:List ByteArray} {S:ad} {v:Value} (h:RdSl S 1 oP v xs) :
  Pure Tryz.prog xD [v,.string s] S (.int .i64 (ce (σ:=Unit) (fun _ x=>(decide (x=s),())) () xs 0).1):=by
 intro w hI
 have hlen:=h.le
 simp only [maxLen] at hlen
 refine lz.2 ?_
 dsimp only[lz,aO]
 refine aF h bM ?_
 refine ⟨fun i w'=>∃ k:Nat,k<=xs.length/\i=.int .i64 k/\ce (σ:=Unit) (fun _ x=>(decide (x=s),())) () (xs.drop k) k=ce (σ:=Unit) (fun _ x=>(decide (x=s),())) () xs 0/\Inv w [] [] S w',
  fun i _=>xs.length - (intOf i).toNat,⟨0,aR _,rfl,rfl,hI⟩,?_⟩
 intro t8 _ _ _ _ _ _ _ _ _ _ _ _ w'
 rintro ⟨k,hk,rfl,hrel,hI⟩
 refine bL ?_
 refine aH (fun hki=>?_) (fun hki=>?_)
 ·have hk':k<xs.length:=by omega
  rw [di hk',ce] at hrel
  refine hY hI h bM aN hk' (fun cs hcs=>hcs) ?_
  refine bt ?_
  refine aH (fun he=>done hI ?_) (fun he=>?_)
  ·rw [<- hrel,ai (by simpa using he.symm)]
  ·refine bn (by omega) ?_
   rw [af (by simpa using fun e=>he e.symm)] at hrel
   exact ⟨⟨k+1,hk',rfl,hrel,hI⟩,by simp [intOf]; omega⟩
 ·have:k=xs.length:=by omega
  subst this
  rw [dP,ce] at hrel
  exact done hI (by rw [<- hrel])
theorem fm (s:ByteArray) {xs:List ByteArray} {S:ad} {v:Value} (h:RdSl S 1 oP v xs) :
  Pure Tryz.prog rE [v,.string s] S (.bool (xs.any fun x=>decide (x=s))):=by
 intro w hI
 refine iV.2 ?_
 dsimp only[iV,aO]
 refine Run.callPure tP s8 hI (sP s h) fun w' hI=>?_
 refine kX (done hI ?_)
 rw [(im _ xs () 0).1,jF]
theorem wc (s:ByteArray) (hs:s.size<=maxLen) (S:ad):Pure Tryz.prog Du [.string s] S (.bool (k0 s)):=by
 intro w hI
 refine pi.2 ?_
 dsimp only[pi,aG]
 refine Run.callPure pZ qO hI (oY s hs S) fun w' hI=>?_
 refine Gj (fun h=>done hI ?_) (fun h=>?_)
 ·rw [k0,h]; rfl
 ·refine Run.call0 GD GM hI (Dg S) fun v' I' S' w'=>?_
  rintro ⟨rfl,_,hr⟩ hle hI
  refine Run.callPure fO fG hI (fm s hr) fun w' hI=>?_
  refine xG h (kC hI hle ?_)
  rw [k0,h]; rfl

abbrev i7 (b:Nat) (c:Int):Item:=.blk b (.cells #[.int .i64 c] b0)
abbrev th (bc:Nat) (S:ad) (r:Bool × Int):Value->List Item->ad->Prop:=fun v I' S'=>v=.bool r.1/\I'=[i7 bc r.2]/\S'=S
theorem Jw:∀ (t:T) (deep c:Int),c<=120->(eQ t deep c).1=true->c<(eQ t deep c).2/\(eQ t deep c).2<=120:=by
 intro t deep c hc h
 have:=CA t deep c
 rw [this.2 h]
 have h1:=this.1
 rw [h] at h1
 have h2:=h1.symm
 simp at h2
 have:=ut t
 omega
theorem ED (deep:Int):∀ (ks:List T) (c:Int),rx (fun c t=>(!(eQ t deep c).1,(eQ t deep c).2)) c ks=(!(kj ks deep c).1,(kj ks deep c).2)
 | [],c=>by simp [rx,kj]
 | t::ts,c=>by
  by_cases h:(eQ t deep c).1=true
  ·simp [rx,kj,h,ED deep ts]
  ·simp [rx,kj,h]

theorem LC:∀ (t:T) (S:ad) (cs:List Value) (deep c:Int) (bc:Nat),RdT S cs t->0<=deep->deep<=31->0<=c->c<=120->
  Tri Tryz.prog Oj [.agg cs.toArray,.int .i64 deep,.pointer (some ⟨bc,0,none⟩)] [i7 bc c] S (th bc S (eQ t deep c)):=by
 refine T.ind fun k n s ks ih S cs deep c bc h hd0 hd1 hc0 hc1=>?_
 intro w hI
 obtain ⟨kv,rfl,_,_,hs,hks⟩:=RdT.iff.1 h
 simp only [T.name,T.kids,T.kind,T.n] at hs hks ⊢
 have hend:∀ {L:List Item} {w':World} {v:Value} (r:Bool × Int),Inv w (bu [i7 bc c]) (i7 bc r.2::L) S w'->v=.bool r.1->r=eQ (.mk k n s ks) deep c->
   ∃ v' I' S',Ending.returned v=.returned v'/\Inv w (bu [i7 bc c]) I' S' w'/\Ext w.heap.size (bu [i7 bc c]) S S'/\th bc S (eQ (.mk k n s ks) deep c) v' I' S':=by
  intro L w' v r h1 h2 h3
  subst h3
  exact ⟨_,_,_,rfl,h1.pick [true],Ext.refl _ _ _,h2,rfl,rfl⟩
 refine EL.2 ?_
 dsimp only[EL,gM]
 refine bp hI fun b3 w' hI=>?_
 refine bp hI fun b4 w' hI=>?_
 refine bp hI fun b5 w' hI=>?_
 refine bb hI 3 Fu rfl rfl ?_
 refine ar ?_
 refine bb hI 0 aI rfl rfl ?_
 refine bn (by omega) ?_
 refine ar ?_
 refine df hI 0 (n:=1) rfl (by rw [aI]; rfl) rfl (jS rfl) (by simp [Value.cells]; rfl) fun w' hI=>?_
 refine ⟨fun t w'=>t=.bool (decide (120<c+1 ∨ 30<deep))/\Inv w (bu [i7 bc c]) [i7 bc (c+1),.blk b3 (.cells #[.int .i64 k,.int .i64 n,.string s,kv] ab),.blk b4 (.cells #[.int .i64 deep] b0),.blk b5 (.cells #[.pointer (some ⟨bc,0,none⟩)] nH)] S w',?_,?_⟩
 ·refine bb hI 3 Fu rfl rfl ?_
  refine ar ?_
  refine bb hI 0 aI rfl rfl ?_
  refine eU ?_
  refine Gj (fun h=>⟨?_,hI⟩) (fun h=>?_)
  ·have h:=of_decide_eq_true h
   rw [aS (show 120<c+1 ∨ 30<deep from .inl h)]
  ·refine bb hI 2 aI rfl rfl ?_
   refine eU ?_
   refine xG h ⟨?_,hI⟩
   have h:=of_decide_eq_false h
   congr 1
   rw [oS]
   simp
   omega
 intro t _ _ _ _ _ _ _ w'
 rintro ⟨rfl,hI⟩
 refine aH (fun hb=>?_) (fun hb=>?_)
 ·exact hend (false,c+1) hI rfl (by rw [eQ,ai hb])
 have hsc:∀ r,(if k=1 ∨ k=2 then (eN (.mk k n s ks),c+1) else if k=3 then (if eN (.mk k n s ks) then kj ks (deep+1) (c+1) else (false,c+1)) else (false,c+1))=r->r=eQ (.mk k n s ks) deep c:=by
  intro r hr
  rw [eQ,af hb,hr]
 refine ae hI 1 rfl aV aI rfl ?_
 refine bl ?_
 refine aH (fun hk=>?_) (fun hk=>?_)
 ·have ho:eN (.mk k n s ks)=(decide (0<=n) && (decide (n<=25) && (decide (s=emptyB) && decide (ks.length=0)))):=by
   rw [eN]; exact ai hk
  have hfin:∀ {w':World} {b:Bool},Inv w (bu [i7 bc c]) [i7 bc (c+1),.blk b3 (.cells #[.int .i64 k,.int .i64 n,.string s,kv] ab),.blk b4 (.cells #[.int .i64 deep] b0),.blk b5 (.cells #[.pointer (some ⟨bc,0,none⟩)] nH)] S w'->
    b=eN (.mk k n s ks)->∃ v' I' S',Ending.returned (.bool b)=.returned v'/\Inv w (bu [i7 bc c]) I' S' w'/\Ext w.heap.size (bu [i7 bc c]) S S'/\th bc S (eQ (.mk k n s ks) deep c) v' I' S':=
   fun hI hb=>hend (_,c+1) hI (by rw [hb]) (hsc _ (ai (.inl hk)))
  refine ae hI 1 rfl bm aI rfl ?_
  refine Run.callPure fE fL hI (fa _ _ _ S) fun w' hI=>?_
  refine i3 (fun h2=>?_) (fun h2=>?_)
  ·have h2':=h2
   rw [bN] at h2'
   refine ae hI 1 rfl aW aN rfl ?_
   refine bt ?_
   refine gg h2 ?_
   refine i3 (fun h3=>?_) (fun h3=>hfin hI ?_)
   ·refine ae hI 1 rfl av ao rfl ?_
    refine aF hks ah ?_
    refine bl ?_
    refine gg h3 (hfin hI ?_)
    rw [ho,h2'.1,h2'.2,show decide (s=emptyB)=true from h3]
    simp
   ·rw [ho,h2'.1,h2'.2,show decide (s=emptyB)=false from h3]; rfl
  ·refine m0 (hfin hI ?_)
   rw [ho,<- Bool.and_assoc,h2]; rfl
 refine bl ?_
 refine aH (fun hk2=>?_) (fun hk2=>?_)
 ·have ho:eN (.mk k n s ks)=(decide (-999<=n) && (decide (n<=999) && (decide (s=emptyB) && decide (ks.length=0)))):=by
   rw [eN]; exact (af hk).trans (ai hk2)
  have hfin:∀ {w':World} {b:Bool},Inv w (bu [i7 bc c]) [i7 bc (c+1),.blk b3 (.cells #[.int .i64 k,.int .i64 n,.string s,kv] ab),.blk b4 (.cells #[.int .i64 deep] b0),.blk b5 (.cells #[.pointer (some ⟨bc,0,none⟩)] nH)] S w'->
    b=eN (.mk k n s ks)->∃ v' I' S',Ending.returned (.bool b)=.returned v'/\Inv w (bu [i7 bc c]) I' S' w'/\Ext w.heap.size (bu [i7 bc c]) S S'/\th bc S (eQ (.mk k n s ks) deep c) v' I' S':=
   fun hI hb=>hend (_,c+1) hI (by rw [hb]) (hsc _ (ai (.inr hk2)))
  refine ae hI 1 rfl bm aI rfl ?_
  refine Run.callPure fE fL hI (fa _ _ _ S) fun w' hI=>?_
  refine i3 (fun h2=>?_) (fun h2=>?_)
  ·have h2':=h2
   rw [bN] at h2'
   refine ae hI 1 rfl aW aN rfl ?_
   refine bt ?_
   refine gg h2 ?_
   refine i3 (fun h3=>?_) (fun h3=>hfin hI ?_)
   ·refine ae hI 1 rfl av ao rfl ?_
    refine aF hks ah ?_
    refine bl ?_
    refine gg h3 (hfin hI ?_)
    rw [ho,h2'.1,h2'.2,show decide (s=emptyB)=true from h3]
    simp
   ·rw [ho,h2'.1,h2'.2,show decide (s=emptyB)=false from h3]; rfl
  ·refine m0 (hfin hI ?_)
   rw [ho,<- Bool.and_assoc,h2]; rfl
 refine bl ?_
 have hk12:¬ (k=1 ∨ k=2):=fun h=>h.elim hk hk2
 refine aH (fun hk3=>?_) (fun hk3=>?_)
 ·have ho:eN (.mk k n s ks)=(decide (n=0) && (k0 s && decide (ks.length<=4))):=by
   rw [eN]; exact (af hk).trans ((af hk2).trans (ai hk3))
  refine ⟨fun t w'=>t=.bool (!eN (.mk k n s ks))/\Inv w (bu [i7 bc c]) [i7 bc (c+1),.blk b3 (.cells #[.int .i64 k,.int .i64 n,.string s,kv] ab),.blk b4 (.cells #[.int .i64 deep] b0),.blk b5 (.cells #[.pointer (some ⟨bc,0,none⟩)] nH)] S w',?_,?_⟩
  ·refine ae hI 1 rfl bm aI rfl ?_
   refine gV ?_
   refine Gj (fun h1=>?_) (fun h1=>?_)
   ·have h1':decide (n=0)=false:=by simpa using h1
    refine Ti ⟨?_,hI⟩
    rw [ho,h1']; rfl
   ·have h1':decide (n=0)=true:=by simpa using h1
    refine ae hI 1 rfl aW aN rfl ?_
    refine Run.callPure BD AE hI (wc s hs S) fun w' hI=>?_
    refine ct ?_
    refine xG h1 ?_
    refine Gj (fun h2=>⟨?_,hI⟩) (fun h2=>?_)
    ·have h2':k0 s=false:=by simpa using h2
     rw [ho,h1',h2']; rfl
    ·have h2':k0 s=true:=by simpa using h2
     refine ae hI 1 rfl av ao rfl ?_
     refine aF hks ah ?_
     refine eU ?_
     refine xG h2 ⟨?_,hI⟩
     rw [ho,h1',h2',dU,dU]
     congr 1
     rw [oS]
     simp
     omega
  intro t _ _ _ _ _ _ _ _ _ _ _ _ _ _ w'
  rintro ⟨rfl,hI⟩
  refine aw (fun hb1=>?_) (fun hb1=>?_)
  ·have hb1':eN (.mk k n s ks)=false:=by simpa using hb1
   exact hend (false,c+1) hI rfl (hsc _ (by rw [af hk12,ai hk3,hb1']; rfl))
  ·have hb1':eN (.mk k n s ks)=true:=by simpa using hb1
   refine ae hI 1 rfl av ao rfl ?_
   refine nT ?_
   have hcb:Cb Tryz.prog Lv Tryz.f123 [.pointer (some ⟨b4,0,none⟩),.pointer (some ⟨b5,0,none⟩)] S
     (fun c:Int=>[i7 bc c,.blk b4 (.cells #[.int .i64 deep] b0),.blk b5 (.cells #[.pointer (some ⟨bc,0,none⟩)] nH)]) (fun c=>0<=c/\c<=120)
     (fun c t=>(!(eQ t (deep+1) c).1,(eQ t (deep+1) c).2)) (fun v x=>∃ cs,v=.agg cs.toArray/\RdT S cs x) ks:=by
    refine ⟨Is,IQ,fun st x _ hst hf=>?_,fun st x v hx hst=>?_⟩
    ·have:=Jw x (deep+1) st hst.2 (by simpa using hf)
     omega
    ·rintro ⟨cs,rfl,hcs⟩ w1 hI
     have hl:=hcs.length
     refine ye.2 ?_
     dsimp only[ye,gM]
     refine bp hI fun b w' hI=>?_
     refine az hI 3 ac rfl (by simpa [Value.cells] using hl) ?_
     refine bb hI 1 aI rfl rfl ?_
     refine bn (by omega) ?_
     refine bb hI 2 Fu rfl rfl ?_
     have hI:=hI.perm (M:=[.blk b4 (.cells #[.int .i64 deep] b0),.blk b5 (.cells #[.pointer (some ⟨bc,0,none⟩)] nH),.blk b (.cells (Value.agg cs.toArray).cells ab)]++[i7 bc st])
      (co (l₁:=[_,_,_]) (l₂:=[i7 bc st]))
     refine Run.call DW EA hI (ih x hx S cs (deep+1) st bc hcs (by omega) (by omega) hst.1 hst.2) fun v' I' S' w'=>?_
     rintro ⟨rfl,rfl,rfl⟩ _ hI
     refine ct ?_
     have hI:=(hI.perm (M:=[i7 bc (eQ x (deep+1) st).2]++[.blk b4 (.cells #[.int .i64 deep] b0),.blk b5 (.cells #[.pointer (some ⟨bc,0,none⟩)] nH),.blk b (.cells (Value.agg cs.toArray).cells ab)])
      co).pick [true,true,true,false]
     exact ⟨_,_,_,rfl,hI,Ext.refl _ _ _,rfl,rfl,rfl⟩
   have hI:=hI.perm (M:=[.blk b3 (.cells #[.int .i64 k,.int .i64 n,.string s,kv] ab)]++[i7 bc (c+1),.blk b4 (.cells #[.int .i64 deep] b0),.blk b5 (.cells #[.pointer (some ⟨bc,0,none⟩)] nH)]) (List.Perm.swap _ _ _)
   refine Run.call eZ fg hI (i4 hcb hks ⟨by omega,by omega⟩) fun v' I' S' w'=>?_
   rintro ⟨rfl,rfl,rfl⟩ _ hI
   refine ct ?_
   rw [ED] at hI ⊢
   have hI:=hI.perm (M:=[i7 bc (kj ks (deep+1) (c+1)).2,.blk b3 (.cells #[.int .i64 k,.int .i64 n,.string s,kv] ab),.blk b4 (.cells #[.int .i64 deep] b0),.blk b5 (.cells #[.pointer (some ⟨bc,0,none⟩)] nH)]) (List.Perm.swap _ _ _)
   refine hend (kj ks (deep+1) (c+1)) hI (by simp) (hsc _ (by rw [af hk12,ai hk3,hb1']; rfl))
 ·exact hend (false,c+1) hI rfl (hsc _ (by rw [af hk12,af hk3]))

theorem mh {t:T} {S:ad} {cs:List Value} (h:RdT S cs t):Pure Tryz.prog C7 [.agg cs.toArray] S (.bool (dJ t)):=by
 intro w hI
 have hl:=h.length
 refine qe.2 ?_
 dsimp only[qe,aG]
 refine bp hI fun b1 w' hI=>?_
 refine aP hI OH fun b2 w' hI=>?_
 refine df hI 1 (n:=1) rfl (by rw [aI]; rfl) rfl (jS rfl) (by simp [Value.cells]; rfl) fun w' hI=>?_
 refine az hI 0 ac rfl (by simpa [Value.cells] using hl) ?_
 refine Run.call (A:=[_]) (I:=[i7 b2 0]) DW EA hI (LC t S cs 1 0 b2 h (by omega) (by omega) (by omega) (by omega)) fun v' I' S' w'=>?_
 rintro ⟨rfl,rfl,rfl⟩ _ hI
 exact done hI (by rw [LL])
end
section
open Go Go.RowKit
attribute [local irreducible] Run CondV aq aK

def o6:List ByteArray:=[⟨#[61]⟩,⟨#[92,61]⟩,⟨#[61,61]⟩,⟨#[60]⟩,⟨#[62]⟩,⟨#[61,60]⟩,⟨#[62,61]⟩,⟨#[61,58,61]⟩,⟨#[105,115]⟩]
def nw:List ByteArray:=[⟨#[116,114,117,101]⟩,⟨#[102,97,105,108]⟩]
def rO:List ByteArray:=[⟨#[118,97,114]⟩,⟨#[110,111,110,118,97,114]⟩,⟨#[97,116,111,109]⟩,⟨#[105,110,116]⟩]
def ug:List ByteArray:=[⟨#[43]⟩,⟨#[45]⟩]
def kP:List ByteArray:=[⟨#[42]⟩,⟨#[47,47]⟩,⟨#[109,111,100]⟩]
def cE (s:ByteArray) (l:List ByteArray):Bool:=l.any fun x=>decide (s=x)
def eh (s:ByteArray) (n:Int):Bool:=
 if cE s o6=true then decide (n=2)
 else if cE s nw=true then decide (n=0)
 else if cE s rO=true then decide (n=1)
 else if s=⟨#[97,114,103]⟩ then decide (n=3)
 else false
def bV (s:ByteArray):Int:=if cE s o6=true then 3 else if cE s ug=true then 2 else if cE s kP=true then 1 else 0
def fp (t:T):Bool:=decide (t.kind=3) && (decide (t.name=⟨#[33]⟩) && decide (t.kids.length=0))
def N9 (t:T):Bool:=decide (t.kind=3) && decide (t.kids.length=0)
def cr (t:T):Bool:=decide (t.kind=3) && eh t.name t.kids.length
def dg (t:T):Bool:=decide (t.kind=3) && (lc t.name && (!eh t.name t.kids.length && decide (bV t.name=0)))
def eF (t:T):Bool:=dJ t && (fp t || (dg t || cr t))
def bX (c:C):Bool:=decide (c.body.length<=6) && (c.body.all eF && (dJ c.head && dg c.head))
def bT (l:List T):Bool:=decide (l.length<=6) && l.all eF
def ci (p:List C):Bool:=decide (p.length<=20) && p.all bX
theorem MT (s:ByteArray):(!decide (0<bV s))=decide (bV s=0):=by
 unfold bV
 split
 ·rfl
 ·split
  ·rfl
  ·split <;> rfl

theorem mC (s:ByteArray) (n:Int) (S:ad):Pure Tryz.prog CO [.string s,.int .i64 n] S (.bool (eh s n)):=by
 intro w hI
 refine qi.2 ?_
 dsimp only[qi,aO]
 obtain ⟨q,hq⟩:∃ q,cE s o6=q:=⟨_,rfl⟩
 have hq1:=hq
 refine ⟨fun t w'=>t=.bool q/\Inv w [] [] S w',?_,?_⟩
 ·unfold cE o6 at hq
  iterate 8
   refine bt ?_
   refine aw (fun h=>⟨by rw [eH,h] at hq; rw [h,<- hq]; rfl,hI⟩) (fun h=>?_)
   rw [eH,h,gc] at hq
  refine bt ⟨?_,hI⟩
  rw [<- hq]; simp
 intro t _ _ _ _ _ _ _ _ _ w'
 rintro ⟨rfl,hI⟩
 refine aw (fun h=>?_) (fun h=>?_)
 ·exact bl (done hI (by rw [eh,ai (hq1.trans h)]))
 have e1:eh s n=if cE s nw=true then decide (n=0) else if cE s rO=true then decide (n=1) else if s=⟨#[97,114,103]⟩ then decide (n=3) else false:=by
  rw [eh,af (by rw [hq1,h]; decide)]
 clear hq hq1 h
 obtain ⟨q,hq⟩:∃ q,cE s nw=q:=⟨_,rfl⟩
 have hq1:=hq
 refine ⟨fun t w'=>t=.bool q/\Inv w [] [] S w',?_,?_⟩
 ·unfold cE nw at hq
  refine bt ?_
  refine aw (fun h=>⟨by rw [eH,h] at hq; rw [h,<- hq]; rfl,hI⟩) (fun h=>?_)
  rw [eH,h,gc] at hq
  refine bt ⟨?_,hI⟩
  rw [<- hq]; simp
 intro _ t _ w'
 rintro ⟨rfl,hI⟩
 refine aw (fun h=>?_) (fun h=>?_)
 ·exact bl (done hI (by rw [e1,ai (hq1.trans h)]))
 rw [af (by rw [hq1,h]; decide)] at e1
 clear hq hq1 h
 obtain ⟨q,hq⟩:∃ q,cE s rO=q:=⟨_,rfl⟩
 have hq1:=hq
 refine ⟨fun t w'=>t=.bool q/\Inv w [] [] S w',?_,?_⟩
 ·unfold cE rO at hq
  iterate 3
   refine bt ?_
   refine aw (fun h=>⟨by rw [eH,h] at hq; rw [h,<- hq]; rfl,hI⟩) (fun h=>?_)
   rw [eH,h,gc] at hq
  refine bt ⟨?_,hI⟩
  rw [<- hq]; simp
 intro _ _ _ t _ w'
 rintro ⟨rfl,hI⟩
 refine aw (fun h=>?_) (fun h=>?_)
 ·exact bl (done hI (by rw [e1,ai (hq1.trans h)]))
 rw [af (by rw [hq1,h]; decide)] at e1
 refine bt ?_
 refine aH (fun h=>?_) (fun h=>?_)
 ·exact bl (done hI (by rw [e1,ai h]))
 ·exact done hI (by rw [e1,af h])
theorem xe (s:ByteArray) (n:Int) (S:ad):Pure Tryz.prog DE [.string s,.int .i64 n] S (.bool (eh s n)):=by
 intro w hI
 refine qz.2 ?_
 dsimp only[qz,aO]
 obtain ⟨q,hq⟩:∃ q,cE s o6=q:=⟨_,rfl⟩
 have hq1:=hq
 refine ⟨fun t w'=>t=.bool q/\Inv w [] [] S w',?_,?_⟩
 ·unfold cE o6 at hq
  iterate 8
   refine bt ?_
   refine aw (fun h=>⟨by rw [eH,h] at hq; rw [h,<- hq]; rfl,hI⟩) (fun h=>?_)
   rw [eH,h,gc] at hq
  refine bt ⟨?_,hI⟩
  rw [<- hq]; simp
 intro t _ _ _ _ _ _ _ _ _ w'
 rintro ⟨rfl,hI⟩
 refine aw (fun h=>?_) (fun h=>?_)
 ·exact bl (done hI (by rw [eh,ai (hq1.trans h)]))
 have e1:eh s n=if cE s nw=true then decide (n=0) else if cE s rO=true then decide (n=1) else if s=⟨#[97,114,103]⟩ then decide (n=3) else false:=by
  rw [eh,af (by rw [hq1,h]; decide)]
 clear hq hq1 h
 obtain ⟨q,hq⟩:∃ q,cE s nw=q:=⟨_,rfl⟩
 have hq1:=hq
 refine ⟨fun t w'=>t=.bool q/\Inv w [] [] S w',?_,?_⟩
 ·unfold cE nw at hq
  refine bt ?_
  refine aw (fun h=>⟨by rw [eH,h] at hq; rw [h,<- hq]; rfl,hI⟩) (fun h=>?_)
  rw [eH,h,gc] at hq
  refine bt ⟨?_,hI⟩
  rw [<- hq]; simp
 intro _ t _ w'
 rintro ⟨rfl,hI⟩
 refine aw (fun h=>?_) (fun h=>?_)
 ·exact bl (done hI (by rw [e1,ai (hq1.trans h)]))
 rw [af (by rw [hq1,h]; decide)] at e1
 clear hq hq1 h
 obtain ⟨q,hq⟩:∃ q,cE s rO=q:=⟨_,rfl⟩
 have hq1:=hq
 refine ⟨fun t w'=>t=.bool q/\Inv w [] [] S w',?_,?_⟩
 ·unfold cE rO at hq
  iterate 3
   refine bt ?_
   refine aw (fun h=>⟨by rw [eH,h] at hq; rw [h,<- hq]; rfl,hI⟩) (fun h=>?_)
   rw [eH,h,gc] at hq
  refine bt ⟨?_,hI⟩
  rw [<- hq]; simp
 intro _ _ _ t _ w'
 rintro ⟨rfl,hI⟩
 refine aw (fun h=>?_) (fun h=>?_)
 ·exact bl (done hI (by rw [e1,ai (hq1.trans h)]))
 rw [af (by rw [hq1,h]; decide)] at e1
 refine bt ?_
 refine aH (fun h=>?_) (fun h=>?_)
 ·exact bl (done hI (by rw [e1,ai h]))
 ·exact done hI (by rw [e1,af h])

theorem dK (s:ByteArray) (S:ad):Pure Tryz.prog H1 [.string s] S (.int .i64 (bV s)):=by
 intro w hI
 refine vO.2 ?_
 dsimp only[vO,aG]
 obtain ⟨q,hq⟩:∃ q,cE s o6=q:=⟨_,rfl⟩
 have hq1:=hq
 refine ⟨fun t w'=>t=.bool q/\Inv w [] [] S w',?_,?_⟩
 ·unfold cE o6 at hq
  iterate 8
   refine bt ?_
   refine aw (fun h=>⟨by rw [eH,h] at hq; rw [h,<- hq]; rfl,hI⟩) (fun h=>?_)
   rw [eH,h,gc] at hq
  refine bt ⟨?_,hI⟩
  rw [<- hq]; simp
 intro _ _ _ _ _ _ _ _ t _ w'
 rintro ⟨rfl,hI⟩
 refine aw (fun h=>?_) (fun h=>?_)
 ·exact done hI (by rw [show bV s=3 from ai (hq1.trans h)] <;> rfl)
 have e1:bV s=if cE s ug=true then 2 else if cE s kP=true then 1 else 0:=by
  rw [bV,af (by rw [hq1,h]; decide)]
 clear hq hq1 h
 obtain ⟨q,hq⟩:∃ q,cE s ug=q:=⟨_,rfl⟩
 have hq1:=hq
 refine ⟨fun t w'=>t=.bool q/\Inv w [] [] S w',?_,?_⟩
 ·unfold cE ug at hq
  refine bt ?_
  refine aw (fun h=>⟨by rw [eH,h] at hq; rw [h,<- hq]; rfl,hI⟩) (fun h=>?_)
  rw [eH,h,gc] at hq
  refine bt ⟨?_,hI⟩
  rw [<- hq]; simp
 intro _ t _ w'
 rintro ⟨rfl,hI⟩
 refine aw (fun h=>?_) (fun h=>?_)
 ·exact done hI (by rw [show bV s=2 from e1.trans (ai (hq1.trans h))] <;> rfl)
 rw [af (by rw [hq1,h]; decide)] at e1
 clear hq hq1 h
 obtain ⟨q,hq⟩:∃ q,cE s kP=q:=⟨_,rfl⟩
 have hq1:=hq
 refine ⟨fun t w'=>t=.bool q/\Inv w [] [] S w',?_,?_⟩
 ·unfold cE kP at hq
  iterate 2
   refine bt ?_
   refine aw (fun h=>⟨by rw [eH,h] at hq; rw [h,<- hq]; rfl,hI⟩) (fun h=>?_)
   rw [eH,h,gc] at hq
  refine bt ⟨?_,hI⟩
  rw [<- hq]; simp
 intro _ _ t _ w'
 rintro ⟨rfl,hI⟩
 refine aw (fun h=>?_) (fun h=>?_)
 ·exact done hI (by rw [show bV s=1 from e1.trans (ai (hq1.trans h))] <;> rfl)
 ·exact done hI (by rw [show bV s=0 from e1.trans (af (by rw [hq1,h]; decide))] <;> rfl)
theorem zf (s:ByteArray) (S:ad):Pure Tryz.prog Iw [.string s] S (.tuple #[.int .i64 (bV s),.bool (decide (bV s=1) || decide (bV s=2))]):=by
 intro w hI
 refine vL.2 ?_
 dsimp only[vL,aG]
 obtain ⟨q,hq⟩:∃ q,cE s o6=q:=⟨_,rfl⟩
 have hq1:=hq
 refine ⟨fun t w'=>t=.bool q/\Inv w [] [] S w',?_,?_⟩
 ·unfold cE o6 at hq
  iterate 8
   refine bt ?_
   refine aw (fun h=>⟨by rw [eH,h] at hq; rw [h,<- hq]; rfl,hI⟩) (fun h=>?_)
   rw [eH,h,gc] at hq
  refine bt ⟨?_,hI⟩
  rw [<- hq]; simp
 intro _ _ _ _ _ _ _ _ t _ w'
 rintro ⟨rfl,hI⟩
 refine aw (fun h=>?_) (fun h=>?_)
 ·exact done hI (by rw [show bV s=3 from ai (hq1.trans h)] <;> rfl)
 have e1:bV s=if cE s ug=true then 2 else if cE s kP=true then 1 else 0:=by
  rw [bV,af (by rw [hq1,h]; decide)]
 clear hq hq1 h
 obtain ⟨q,hq⟩:∃ q,cE s ug=q:=⟨_,rfl⟩
 have hq1:=hq
 refine ⟨fun t w'=>t=.bool q/\Inv w [] [] S w',?_,?_⟩
 ·unfold cE ug at hq
  refine bt ?_
  refine aw (fun h=>⟨by rw [eH,h] at hq; rw [h,<- hq]; rfl,hI⟩) (fun h=>?_)
  rw [eH,h,gc] at hq
  refine bt ⟨?_,hI⟩
  rw [<- hq]; simp
 intro _ t _ w'
 rintro ⟨rfl,hI⟩
 refine aw (fun h=>?_) (fun h=>?_)
 ·exact done hI (by rw [show bV s=2 from e1.trans (ai (hq1.trans h))] <;> rfl)
 rw [af (by rw [hq1,h]; decide)] at e1
 clear hq hq1 h
 obtain ⟨q,hq⟩:∃ q,cE s kP=q:=⟨_,rfl⟩
 have hq1:=hq
 refine ⟨fun t w'=>t=.bool q/\Inv w [] [] S w',?_,?_⟩
 ·unfold cE kP at hq
  iterate 2
   refine bt ?_
   refine aw (fun h=>⟨by rw [eH,h] at hq; rw [h,<- hq]; rfl,hI⟩) (fun h=>?_)
   rw [eH,h,gc] at hq
  refine bt ⟨?_,hI⟩
  rw [<- hq]; simp
 intro _ _ t _ w'
 rintro ⟨rfl,hI⟩
 refine aw (fun h=>?_) (fun h=>?_)
 ·exact done hI (by rw [show bV s=1 from e1.trans (ai (hq1.trans h))] <;> rfl)
 ·exact done hI (by rw [show bV s=0 from e1.trans (af (by rw [hq1,h]; decide))] <;> rfl)

theorem H6 {t:T} {S:ad} {cs:List Value} (h:RdT S cs t):Pure Tryz.prog NM [.agg cs.toArray] S (.bool (fp t)):=by
 intro w hI
 obtain ⟨kv,rfl,_,_,hs,hks⟩:=RdT.iff.1 h
 obtain ⟨k,n,s,ks⟩:=t
 simp only [T.name,T.kids,T.kind,T.n] at hs hks ⊢
 refine AY.2 ?_
 dsimp only[AY,aG]
 refine bp hI fun b1 w' hI=>?_
 refine ae hI 0 rfl aV aI rfl ?_
 refine bl ?_
 rw [show fp (.mk k n s ks)=(decide (k=3) && (decide (s=⟨#[33]⟩) && decide (ks.length=0))) from rfl]
 cases h1:decide (k=3)
 ·refine rpG ?_
  exact done hI rfl
 ·refine rpG ?_
  refine ae hI 0 rfl aW aN rfl ?_
  refine bt ?_
  cases h2:decide (s=⟨#[33]⟩)
  ·refine rpG ?_
   exact done hI rfl
  ·refine rpG ?_
   refine ae hI 0 rfl av ao rfl ?_
   refine aF hks ah ?_
   refine bl ?_
   refine rpG ?_
   exact done hI (by simp)

theorem lZ {t:T} {S:ad} {cs:List Value} (h:RdT S cs t):Pure Tryz.prog IO [.agg cs.toArray] S (.bool (dg t)):=by
 intro w hI
 obtain ⟨kv,rfl,_,_,hs,hks⟩:=RdT.iff.1 h
 obtain ⟨k,n,s,ks⟩:=t
 simp only [T.name,T.kids,T.kind,T.n] at hs hks ⊢
 refine uf.2 ?_
 dsimp only[uf,aG]
 refine bp hI fun b1 w' hI=>?_
 refine ae hI 0 rfl aV aI rfl ?_
 refine bl ?_
 rw [show dg (.mk k n s ks)=(decide (k=3) && (lc s && (!eh s ks.length && decide (bV s=0)))) from rfl]
 cases h1:decide (k=3)
 ·refine rpG ?_
  exact done hI rfl
 ·refine rpG ?_
  refine ae hI 0 rfl aW aN rfl ?_
  refine Run.callPure y4 yW hI (tN s hs S) fun w' hI=>?_
  cases h2:lc s
  ·refine rpG ?_
   exact done hI rfl
  ·refine rpG ?_
   refine ae hI 0 rfl aW aN rfl ?_
   refine ae hI 0 rfl av ao rfl ?_
   refine aF hks ah ?_
   refine Run.callPure qp qh hI (mC s _ S) fun w' hI=>?_
   refine ct ?_
   cases h3:eh s ks.length
   ·refine rpG ?_
    refine ae hI 0 rfl aW aN rfl ?_
    refine Run.callPure eY fe hI (dK s S) fun w' hI=>?_
    refine bl ?_
    refine rpG ?_
    exact done hI rfl
   ·refine rpG ?_
    exact done hI rfl

theorem GO {t:T} {S:ad} {cs:List Value} (h:RdT S cs t):Pure Tryz.prog KG [.agg cs.toArray] S (.bool (fp t || (dg t || cr t))):=by
 intro w hI
 have h0:=h
 obtain ⟨kv,rfl,_,_,hs,hks⟩:=RdT.iff.1 h
 obtain ⟨k,n,s,ks⟩:=t
 simp only [T.name,T.kids,T.kind,T.n] at h0 hs hks ⊢
 refine yo.2 ?_
 dsimp only[yo,aG]
 refine bp hI fun b1 w' hI=>?_
 refine az hI 0 ac rfl rfl ?_
 refine Run.callPure JV Ll hI (H6 h0) fun w' hI=>?_
 cases h1:fp (.mk k n s ks)
 ·refine rpG ?_
  refine az hI 0 ac rfl rfl ?_
  refine Run.callPure nq nK hI (lZ h0) fun w' hI=>?_
  cases h2:dg (.mk k n s ks)
  ·refine rpG ?_
   refine ae hI 0 rfl aV aI rfl ?_
   refine bl ?_
   rw [show cr (.mk k n s ks)=(decide (k=3) && eh s ks.length) from rfl]
   cases h3:decide (k=3)
   ·refine rpG ?_
    exact done hI rfl
   ·refine rpG ?_
    refine ae hI 0 rfl aW aN rfl ?_
    refine ae hI 0 rfl av ao rfl ?_
    refine aF hks ah ?_
    refine Run.callPure qp qh hI (mC s _ S) fun w' hI=>?_
    refine rpG ?_
    exact done hI rfl
  ·refine rpG ?_
   exact done hI rfl
 ·refine rpG ?_
  exact done hI rfl

theorem Mf {t:T} (h:wT t<=1048576):dZ t<=4611686018427387904:=by
 have:=N7 t
 omega
theorem ma {t:T} {S:ad} {cs:List Value} (h:RdT S cs t) (hc:wT t<=1048576):Pure Tryz.prog CT [.agg cs.toArray] S (.bool (eF t)):=by
 intro w hI
 have hl:=h.length
 refine qE.2 ?_
 dsimp only[qE,aG]
 refine bp hI fun b1 w' hI=>?_
 refine az hI 0 ac rfl (by simpa [Value.cells] using hl) ?_
 refine Run.callPure qw qc hI (mU h (Mf hc)) fun w' hI=>?_
 rw [eF]
 cases h1:dJ t
 ·refine rpG ?_
  exact done hI rfl
 ·refine rpG ?_
  refine az hI 0 ac rfl (by simpa [Value.cells] using hl) ?_
  refine Run.callPure Ix HW hI (GO h) fun w' hI=>?_
  refine rpG ?_
  exact done hI rfl


theorem Gk {ts:List T} {t:T} (h:t∈ts):wT t<=wL ts:=by
 induction ts with
 | nil=>simp at h
 | cons u us ih=>
  rw [wL]
  rcases cQ.1 h with rfl|h
  ·omega
  ·have:=ih h; omega
theorem jU {c:C} {S:ad} {cs:List Value} (h:RdC S cs c) (hc:wC c<=1048576):Pure Tryz.prog zm [.agg cs.toArray] S (.bool (bX c)):=by
 intro w hI
 obtain ⟨hd,ks,rfl,h1,h2⟩:=h
 have h1':=h1
 obtain ⟨kv,rfl,g1,g2,g3,g4⟩:=RdT.iff.1 h1
 have hlen:=h2.le
 simp only [maxLen] at hlen
 unfold wC at hc
 refine mv.2 ?_
 dsimp only[mv,aG]
 refine bp hI fun b1 w' hI=>?_
 refine ⟨fun i w'=>∃ k:Nat,k<=c.body.length/\k<=7/\i=.int .i64 k/\(∀ j (h:j<c.body.length),j<k->eF c.body[j]=true)/\Inv w [] [.blk b1 (.cells #[.int .i64 c.head.kind,.int .i64 c.head.n,.string c.head.name,kv,ks] ag)] S w',
  fun i _=>c.body.length - (intOf i).toNat,⟨0,aR _,by omega,rfl,fun j _ h=>by omega,hI⟩,?_⟩
 intro t3 _ _ _ _ _ _ _ _ _ _ _ _ _ _ _ _ _ _ _ w'
 rintro ⟨k,hk,hk7,rfl,hrel,hI⟩
 refine ⟨fun t w'=>t=.bool (decide (k<c.body.length/\k<=6))/\Inv w [] [.blk b1 (.cells #[.int .i64 c.head.kind,.int .i64 c.head.n,.string c.head.name,kv,ks] ag)] S w',?_,?_⟩
 ·refine ae hI 0 rfl bo ao rfl ?_
  refine aF h2 ah ?_
  refine bL ?_
  by_cases hki:(k:Int)<c.body.length
  ·rw [aS hki]
   refine rpG ?_
   refine eL ?_
   refine rpG ?_
   refine ⟨?_,hI⟩
   congr 1
   rw [oS]; simp; omega
  ·rw [bg hki]
   refine rpG ?_
   exact ⟨by rw [bg (by omega)],hI⟩
 intro t _ _ _ _ _ _ _ _ w'
 rintro ⟨rfl,hI⟩
 refine aH (fun hki=>?_) (fun hki=>?_)
 ·obtain ⟨hk',hk6⟩:=hki
  refine ae hI 0 rfl bo ao rfl ?_
  refine cj hI h2 ah ac hk' (fun _ _=>RdT.length) fun cs' hcs'=>?_
  have hwm:=Gk (bQ hk')
  refine Run.callPure pK qT hI (ma hcs' (by omega)) fun w' hI=>?_
  refine ct ?_
  refine aw (fun hb=>done hI ?_) (fun hb=>?_)
  ·have hb':eF c.body[k]=false:=by simpa using hb
   have:c.body.all eF=false:=by
    rw [<- Jt,ed]
    intro hall
    rw [hall _ (bQ hk')] at hb'
    cases hb'
   rw [bX,this]
   simp
  ·have hb':eF c.body[k]=true:=by simpa using hb
   refine bn (by omega) ?_
   refine ⟨⟨k+1,hk',by omega,rfl,fun j hj hjk=>?_,hI⟩,by simp [intOf]; omega⟩
   by_cases e:j=k
   ·subst e; exact hb'
   ·exact hrel j hj (by omega)
 ·refine ae hI 0 rfl bo ao rfl ?_
  refine aF h2 ah ?_
  refine eL ?_
  rw [bX]
  by_cases hle:c.body.length<=6
  ·have hall:c.body.all eF=true:=by
    rw [ed]
    intro x hx
    obtain ⟨j,hj,rfl⟩:=yf hx
    exact hrel j hj (by omega)
   rw [aS (show (c.body.length:Int)<=6 by omega),aS hle,hall]
   refine rpG ?_
   refine aC bZ ?_
   refine ey hI 0 [.int .i64 c.head.kind,.int .i64 c.head.n,.string c.head.name,kv] ac rfl rfl ?_ ?_
   ·intro j v hj
    match j with
    | 0|1|2|3=>exact hj
    | j+4=>simp at hj
   refine Run.callPure qw qc hI (mU h1' (Mf (by omega))) fun w' hI=>?_
   cases hv:dJ c.head
   ·refine rpG ?_
    exact done hI rfl
   ·refine rpG ?_
    refine aC bZ ?_
    refine ey hI 0 [.int .i64 c.head.kind,.int .i64 c.head.n,.string c.head.name,kv] ac rfl rfl ?_ ?_
    ·intro j v hj
     match j with
     | 0|1|2|3=>exact hj
     | j+4=>simp at hj
    refine Run.callPure nq nK hI (lZ h1') fun w' hI=>?_
    refine rpG ?_
    exact done hI rfl
  ·rw [bg (show ¬ (c.body.length:Int)<=6 by omega),bg hle]
   refine rpG ?_
   exact done hI rfl

theorem kD {xs:List T} {S:ad} {v:Value} (h:RdSl S 4 (RdT S) v xs) (hc:wL xs<=1048576):Pure Tryz.prog AA [v] S (.bool (bT xs)):=by
 intro w hI
 have hlen:=h.le
 simp only [maxLen] at hlen
 refine oH.2 ?_
 dsimp only[oH,aG]
 refine ⟨fun i w'=>∃ k:Nat,k<=xs.length/\k<=6+1/\i=.int .i64 k/\(∀ j (h:j<xs.length),j<k->eF xs[j]=true)/\Inv w [] [] S w',
  fun i _=>xs.length - (intOf i).toNat,⟨0,aR _,by omega,rfl,fun j _ h=>by omega,hI⟩,?_⟩
 intro t3 _ _ _ _ _ _ _ _ _ _ _ _ _ _ _ _ _ w'
 rintro ⟨k,hk,hk7,rfl,hrel,hI⟩
 refine ⟨fun t w'=>t=.bool (decide (k<xs.length/\k<=6))/\Inv w [] [] S w',?_,?_⟩
 ·refine aF h ah ?_
  refine bL ?_
  by_cases hki:(k:Int)<xs.length
  ·rw [aS hki]
   refine rpG ?_
   refine eL ?_
   refine rpG ?_
   refine ⟨?_,hI⟩
   congr 1
   rw [oS]; simp; omega
  ·rw [bg hki]
   refine rpG ?_
   exact ⟨by rw [bg (by omega)],hI⟩
 intro t _ _ _ _ _ _ _ w'
 rintro ⟨rfl,hI⟩
 refine aH (fun hki=>?_) (fun hki=>?_)
 ·obtain ⟨hk',hk6⟩:=hki
  refine cj hI h ah ac hk' (fun _ _=>RdT.length) fun cs' hcs'=>?_
  have hwm:=Gk (bQ hk')
  refine Run.callPure pK qT hI (ma hcs' (by omega)) fun w' hI=>?_
  refine ct ?_
  refine aw (fun hb=>done hI ?_) (fun hb=>?_)
  ·have hb':eF xs[k]=false:=by simpa using hb
   have:xs.all eF=false:=by
    rw [<- Jt,ed]
    intro hall
    rw [hall _ (bQ hk')] at hb'
    cases hb'
   rw [bT,this,vq]
  ·have hb':eF xs[k]=true:=by simpa using hb
   refine bn (by omega) ?_
   refine ⟨⟨k+1,hk',by omega,rfl,fun j hj hjk=>?_,hI⟩,by simp [intOf]; omega⟩
   by_cases e:j=k
   ·subst e; exact hb'
   ·exact hrel j hj (by omega)
 ·refine aF h ah ?_
  refine eL ?_
  rw [bT]
  refine done hI ?_
  by_cases hle:xs.length<=6
  ·have hall:xs.all eF=true:=by
    rw [ed]
    intro x hx
    obtain ⟨j,hj,rfl⟩:=yf hx
    exact hrel j hj (by omega)
   rw [aS (show (xs.length:Int)<=6 by omega),aS hle,hall]; rfl
  ·rw [bg (show ¬ (xs.length:Int)<=6 by omega),bg hle]; rfl
theorem qg {xs:List C} {S:ad} {v:Value} (h:RdSl S 5 (RdC S) v xs) (hc:wP xs<=1048576):Pure Tryz.prog xo [v] S (.bool (ci xs)):=by
 intro w hI
 have hlen:=h.le
 simp only [maxLen] at hlen
 refine kR.2 ?_
 dsimp only[kR,aG]
 refine ⟨fun i w'=>∃ k:Nat,k<=xs.length/\k<=20+1/\i=.int .i64 k/\(∀ j (h:j<xs.length),j<k->bX xs[j]=true)/\Inv w [] [] S w',
  fun i _=>xs.length - (intOf i).toNat,⟨0,aR _,by omega,rfl,fun j _ h=>by omega,hI⟩,?_⟩
 intro t3 _ _ _ _ _ _ _ _ _ _ _ _ _ _ _ _ _ w'
 rintro ⟨k,hk,hk7,rfl,hrel,hI⟩
 refine ⟨fun t w'=>t=.bool (decide (k<xs.length/\k<=20))/\Inv w [] [] S w',?_,?_⟩
 ·refine aF h bi ?_
  refine bL ?_
  by_cases hki:(k:Int)<xs.length
  ·rw [aS hki]
   refine rpG ?_
   refine eL ?_
   refine rpG ?_
   refine ⟨?_,hI⟩
   congr 1
   rw [oS]; simp; omega
  ·rw [bg hki]
   refine rpG ?_
   exact ⟨by rw [bg (by omega)],hI⟩
 intro t _ _ _ _ _ _ _ w'
 rintro ⟨rfl,hI⟩
 refine aH (fun hki=>?_) (fun hki=>?_)
 ·obtain ⟨hk',hk6⟩:=hki
  refine cj hI h bi be hk' (fun _ _=>RdC.length) fun cs' hcs'=>?_
  have hwm:=FJ (bQ hk')
  refine Run.callPure l8 me hI (jU hcs' (by omega)) fun w' hI=>?_
  refine ct ?_
  refine aw (fun hb=>done hI ?_) (fun hb=>?_)
  ·have hb':bX xs[k]=false:=by simpa using hb
   have:xs.all bX=false:=by
    rw [<- Jt,ed]
    intro hall
    rw [hall _ (bQ hk')] at hb'
    cases hb'
   rw [ci,this,vq]
  ·have hb':bX xs[k]=true:=by simpa using hb
   refine bn (by omega) ?_
   refine ⟨⟨k+1,hk',by omega,rfl,fun j hj hjk=>?_,hI⟩,by simp [intOf]; omega⟩
   by_cases e:j=k
   ·subst e; exact hb'
   ·exact hrel j hj (by omega)
 ·refine aF h bi ?_
  refine eL ?_
  rw [ci]
  refine done hI ?_
  by_cases hle:xs.length<=20
  ·have hall:xs.all bX=true:=by
    rw [ed]
    intro x hx
    obtain ⟨j,hj,rfl⟩:=yf hx
    exact hrel j hj (by omega)
   rw [aS (show (xs.length:Int)<=20 by omega),aS hle,hall]; rfl
  ·rw [bg (show ¬ (xs.length:Int)<=20 by omega),bg hle]; rfl

theorem LG (s:ByteArray) (S:ad):Pure Tryz.prog PK [.string s] S (.bool (decide (0<bV s))):=by
 intro w hI
 refine Ev.2 ?_
 dsimp only[Ev,aG]
 refine Run.callPure FN Fs hI (zf s S) fun w' hI=>?_
 refine al rfl ?_
 refine al rfl ?_
 refine eU ?_
 exact done hI rfl
theorem lQ {t:T} {S:ad} {cs:List Value} (h:RdT S cs t):Pure Tryz.prog Jm [.agg cs.toArray] S (.bool (cr t)):=by
 intro w hI
 obtain ⟨kv,rfl,_,_,hs,hks⟩:=RdT.iff.1 h
 obtain ⟨k,n,s,ks⟩:=t
 simp only [T.name,T.kids,T.kind,T.n] at hs hks ⊢
 refine uu.2 ?_
 dsimp only[uu,aG]
 refine bp hI fun b1 w' hI=>?_
 refine ae hI 0 rfl aV aI rfl ?_
 refine bl ?_
 rw [show cr (.mk k n s ks)=(decide (k=3) && eh s ks.length) from rfl]
 cases h3:decide (k=3)
 ·refine rpG ?_
  exact done hI rfl
 ·refine rpG ?_
  refine ae hI 0 rfl aW aN rfl ?_
  refine ae hI 0 rfl av ao rfl ?_
  refine aF hks ah ?_
  refine Run.callPure Bu A8 hI (xe s _ S) fun w' hI=>?_
  refine rpG ?_
  exact done hI rfl
theorem lS {t:T} {S:ad} {cs:List Value} (h:RdT S cs t):Pure Tryz.prog Jv [.agg cs.toArray] S (.bool (dg t)):=by
 intro w hI
 have h0:=h
 obtain ⟨kv,rfl,_,_,hs,hks⟩:=RdT.iff.1 h
 obtain ⟨k,n,s,ks⟩:=t
 simp only [T.name,T.kids,T.kind,T.n] at h0 hs hks ⊢
 refine tL.2 ?_
 dsimp only[tL,aG]
 refine bp hI fun b1 w' hI=>?_
 refine ae hI 0 rfl aV aI rfl ?_
 refine bl ?_
 have hb:cr (.mk k n s ks)=(decide (k=3) && eh s ks.length):=rfl
 rw [show dg (.mk k n s ks)=(decide (k=3) && (lc s && (!eh s ks.length && decide (bV s=0)))) from rfl]
 cases h1:decide (k=3)
 ·refine rpG ?_
  exact done hI rfl
 ·rw [h1] at hb
  refine rpG ?_
  refine ae hI 0 rfl aW aN rfl ?_
  refine Run.callPure pZ qO hI (oY s hs S) fun w' hI=>?_
  cases h2:lc s
  ·refine rpG ?_
   exact done hI rfl
  ·refine rpG ?_
   refine ae hI 0 rfl aW aN rfl ?_
   refine Run.callPure M8 Nb hI (LG s S) fun w' hI=>?_
   refine ct ?_
   rw [MT]
   cases h3:decide (bV s=0)
   ·refine rpG ?_
    exact done hI (by simp)
   ·refine rpG ?_
    refine az hI 0 ac rfl rfl ?_
    refine Run.callPure nt nj hI (lQ h0) fun w' hI=>?_
    refine ct ?_
    refine rpG ?_
    exact done hI (by rw [hb]; simp)
theorem un {t:T} {S:ad} {cs:List Value} (h:RdT S cs t):Pure Tryz.prog KN [.agg cs.toArray] S (.bool (N9 t)):=by
 intro w hI
 obtain ⟨kv,rfl,_,_,hs,hks⟩:=RdT.iff.1 h
 obtain ⟨k,n,s,ks⟩:=t
 simp only [T.name,T.kids,T.kind,T.n] at hs hks ⊢
 refine y6.2 ?_
 dsimp only[y6,aG]
 refine bp hI fun b1 w' hI=>?_
 refine ae hI 0 rfl aV aI rfl ?_
 refine bl ?_
 rw [show N9 (.mk k n s ks)=(decide (k=3) && decide (ks.length=0)) from rfl]
 cases h3:decide (k=3)
 ·refine rpG ?_
  exact done hI rfl
 ·refine rpG ?_
  refine ae hI 0 rfl av ao rfl ?_
  refine aF hks ah ?_
  refine bl ?_
  refine rpG ?_
  exact done hI (by simp)
theorem yn {t:T} {S:ad} {cs:List Value} (h:RdT S cs t):Pure Tryz.prog MV [.agg cs.toArray] S (.bool (fp t)):=by
 intro w hI
 have h0:=h
 obtain ⟨kv,rfl,_,_,hs,hks⟩:=RdT.iff.1 h
 obtain ⟨k,n,s,ks⟩:=t
 simp only [T.name,T.kids,T.kind,T.n] at h0 hs hks ⊢
 refine z0.2 ?_
 dsimp only[z0,aG]
 refine bp hI fun b1 w' hI=>?_
 refine az hI 0 ac rfl rfl ?_
 refine Run.callPure xF x1 hI (un h0) fun w' hI=>?_
 rw [show fp (.mk k n s ks)=(decide (k=3) && (decide (s=⟨#[33]⟩) && decide (ks.length=0))) from rfl]
 cases h1:N9 (.mk k n s ks)
 ·refine rpG ?_
  refine done hI ?_
  replace h1:(decide (k=3) && decide (ks.length=0))=false:=h1
  cases h2:decide (k=3)
  ·rfl
  ·rw [h2,dU] at h1
   rw [h1,vq]; rfl
 ·refine rpG ?_
  refine ae hI 0 rfl aW aN rfl ?_
  refine bt ?_
  refine rpG ?_
  refine done hI ?_
  replace h1:(decide (k=3) && decide (ks.length=0))=true:=h1
  rw [bN] at h1
  rw [h1.1,h1.2]; simp
theorem xj {t:T} {S:ad} {cs:List Value} (h:RdT S cs t):Pure Tryz.prog C2 [.agg cs.toArray] S (.bool (eF t)):=by
 intro w hI
 have hl:=h.length
 refine qI.2 ?_
 dsimp only[qI,aG]
 refine bp hI fun b1 w' hI=>?_
 refine az hI 0 ac rfl (by simpa [Value.cells] using hl) ?_
 refine Run.callPure pQ pW hI (mh h) fun w' hI=>?_
 rw [eF]
 cases h1:dJ t
 ·refine rpG ?_
  exact done hI rfl
 ·refine rpG ?_
  refine az hI 0 ac rfl (by simpa [Value.cells] using hl) ?_
  refine Run.callPure nD nf hI (lS h) fun w' hI=>?_
  cases h2:dg t
  ·refine rpG ?_
   refine az hI 0 ac rfl (by simpa [Value.cells] using hl) ?_
   refine Run.callPure nt nj hI (lQ h) fun w' hI=>?_
   cases h3:cr t
   ·refine rpG ?_
    refine az hI 0 ac rfl (by simpa [Value.cells] using hl) ?_
    refine Run.callPure CH Bz hI (yn h) fun w' hI=>?_
    refine rpG ?_
    exact done hI (by simp)
   ·refine rpG ?_
    exact done hI (by simp)
  ·refine rpG ?_
   exact done hI (by simp)

theorem Ff {α:Type} (p:α->Bool):∀ xs:List α,(!xs.any fun x=>!p x)=xs.all p
 | []=>rfl
 | x::xs=>by
  rw [eH,List.all_cons,<- Ff p xs]
  cases p x <;> simp

theorem rF {x:T} {S:ad} {cs:List Value} (h:RdT S cs x):Pure Tryz.prog mL [.agg cs.toArray] S (.bool (!eF x)):=by
 intro w hI
 have hl:=h.length
 refine lF.2 ?_
 dsimp only[lF,aG]
 refine bp hI fun b1 w' hI=>?_
 refine az hI 0 ac rfl (by simpa [Value.cells] using hl) ?_
 refine Run.callPure Cs AN hI (xj h) fun w' hI=>?_
 refine ct (done hI rfl)
theorem ll {xs:List T} {S:ad} {v:Value} (h:RdSl S 4 (RdT S) v xs):Pure Tryz.prog Cx [v] S (.bool (bT xs)):=by
 intro w hI
 refine oK.2 ?_
 dsimp only[oK,aG]
 refine aF h ah ?_
 refine eL ?_
 rw [bT]
 by_cases hle:xs.length<=6
 ·rw [aS (show (xs.length:Int)<=6 by omega),aS hle]
  refine rpG ?_
  have hcb:Cb Tryz.prog mL _ [] S (fun _:Unit=>[]) (fun _=>True) (fun _ x=>(!eF x,())) (fun v x=>∃ cs,v=.agg cs.toArray/\RdT S cs x) xs:=
   Cb.pure [] tg vi fun x v _=>by
    rintro ⟨cs,rfl,hcs⟩ w1 hI
    exact (rF hcs w1 hI).mono fun e w' ⟨he,hI⟩=>⟨_,_,_,he,hI,Ext.refl _ _ _,rfl,rfl,rfl⟩
  refine Run.call0 eZ fg hI (i4 hcb h (st:=()) trivial) fun v' I' S' w'=>?_
  rintro ⟨rfl,rfl,rfl⟩ _ hI
  refine ct ?_
  refine rpG ?_
  refine done hI ?_
  rw [jF (fun x=>!eF x) xs,Ff]; rfl
 ·rw [bg (show ¬ (xs.length:Int)<=6 by omega),bg hle]
  refine rpG ?_
  exact done hI rfl
theorem sA {c:C} {S:ad} {cs:List Value} (h:RdC S cs c):Pure Tryz.prog zE [.agg cs.toArray] S (.bool (bX c)):=by
 intro w hI
 obtain ⟨hd,ks,rfl,h1,h2⟩:=h
 have h1':=h1
 obtain ⟨kv,rfl,g1,g2,g3,g4⟩:=RdT.iff.1 h1
 have hfin:bX c=(dJ c.head && (dg c.head && bT c.body)):=by
  unfold bX bT
  cases dJ c.head <;> cases dg c.head <;> simp
 refine mT.2 ?_
 dsimp only[mT,aG]
 rw [hfin]
 refine bp hI fun b1 w' hI=>?_
 refine aC bZ ?_
 refine ey hI 0 [.int .i64 c.head.kind,.int .i64 c.head.n,.string c.head.name,kv] ac rfl rfl ?_ ?_
 ·intro j v hj
  match j with
  | 0|1|2|3=>exact hj
  | j+4=>simp at hj
 refine Run.callPure pQ pW hI (mh h1') fun w' hI=>?_
 cases hv:dJ c.head
 ·refine rpG ?_
  exact done hI rfl
 ·refine rpG ?_
  refine aC bZ ?_
  refine ey hI 0 [.int .i64 c.head.kind,.int .i64 c.head.n,.string c.head.name,kv] ac rfl rfl ?_ ?_
  ·intro j v hj
   match j with
   | 0|1|2|3=>exact hj
   | j+4=>simp at hj
  refine Run.callPure nD nf hI (lS h1') fun w' hI=>?_
  cases hp:dg c.head
  ·refine rpG ?_
   exact done hI rfl
  ·refine rpG ?_
   refine ae hI 0 rfl bo ao rfl ?_
   refine Run.callPure oL ox hI (ll h2) fun w' hI=>?_
   refine rpG ?_
   exact done hI rfl

theorem o3 {x:C} {S:ad} {cs:List Value} (h:RdC S cs x):Pure Tryz.prog jW [.agg cs.toArray] S (.bool (!bX x)):=by
 intro w hI
 have hl:=h.length
 refine jm.2 ?_
 dsimp only[jm,aG]
 refine bp hI fun b1 w' hI=>?_
 refine az hI 0 be rfl (by simpa [Value.cells] using hl) ?_
 refine Run.callPure wd wg hI (sA h) fun w' hI=>?_
 refine ct (done hI rfl)
theorem gi {xs:List C} {S:ad} {v:Value} (h:RdSl S 5 (RdC S) v xs):Pure Tryz.prog xy [v] S (.bool (ci xs)):=by
 intro w hI
 refine kN.2 ?_
 dsimp only[kN,aG]
 refine aF h bi ?_
 refine eL ?_
 rw [ci]
 by_cases hle:xs.length<=20
 ·rw [aS (show (xs.length:Int)<=20 by omega),aS hle]
  refine rpG ?_
  have hcb:Cb Tryz.prog jW _ [] S (fun _:Unit=>[]) (fun _=>True) (fun _ x=>(!bX x,())) (fun v x=>∃ cs,v=.agg cs.toArray/\RdC S cs x) xs:=
   Cb.pure [] rz rD fun x v _=>by
    rintro ⟨cs,rfl,hcs⟩ w1 hI
    exact (o3 hcs w1 hI).mono fun e w' ⟨he,hI⟩=>⟨_,_,_,he,hI,Ext.refl _ _ _,rfl,rfl,rfl⟩
  refine Run.call0 lW l0 hI (nS hcb h (st:=()) trivial) fun v' I' S' w'=>?_
  rintro ⟨rfl,rfl,rfl⟩ _ hI
  refine ct ?_
  refine rpG ?_
  refine done hI ?_
  rw [jF (fun x=>!bX x) xs,Ff]; rfl
 ·rw [bg (show ¬ (xs.length:Int)<=20 by omega),bg hle]
  refine rpG ?_
  exact done hI rfl
theorem gS {xs:List T} {S:ad} {v:Value} (h:RdSl S 4 (RdT S) v xs):Pure Tryz.prog Au [v] S (.bool (bT xs)):=by
 intro w hI
 refine oc.2 ?_
 dsimp only[oc,aG]
 refine Run.callPure oL ox hI (ll h) fun w' hI=>done hI rfl
end
section
open Go Go.RowKit
attribute [local irreducible] Run CondV aq aK

def RowRd (S:ad) (v:Value) (e:TypeId) (k n:Nat) (xs:List Value):Prop:=
 xs.length=n * k/\((v=.slice none 0 0/\n=0) ∨ ∃ g cap cur,v=.slice (some ⟨g,0,none⟩) n cap/\S g=some (.cells cur e)/\n<=cap/\cap<=maxLen/\cur.size=cap * k/\cur.toList.take (n * k)=xs)
theorem Inv.lend {w0 w:World} {X:List Nat} {A:List Item} {S:ad} {v:Value} {e:TypeId} {k n:Nat} {xs:List Value} (h:Inv w0 X (A++[.row v e k n xs]) S w) :
  ∃ S',Sle S S'/\RowRd S' v e k n xs/\Inv w0 X A S' w/\∀ B w',Inv w0 X B S' w'->Inv w0 X (B++[.row v e k n xs]) S w':=by
 have hm:w.ownsRow 0 e k v n xs:=h.its (.row v e k n xs) (by simp)
 obtain ⟨hl,hm⟩:=hm
 rcases hm with ⟨rfl,rfl⟩|⟨g,cap,cur,rfl,_,hg,hnc,hcm,hcs,ht⟩
 ·have:xs=[]:=iW (by rw [hl,wG])
  subst this
  exact ⟨S,Sle.refl S,⟨hl,.inl ⟨rfl,rfl⟩⟩,h.sub (dn _ _),fun B w' hB=>hB.rowNil e k⟩
 ·have hf:bu (A++[Item.blk g (.cells cur e)])=bu (A++[Item.row (.slice (some ⟨g,0,none⟩) n cap) e k n xs]):=by
   simp [bu,Item.foot,Value.ownBlock]
  have hg':g∈bu (A++[Item.row (.slice (some ⟨g,0,none⟩) n cap) e k n xs]):=by simp [bu,Item.foot,Value.ownBlock]
  have h':Inv w0 X (A++[Item.blk g (.cells cur e)]) S w:=by
   refine ⟨h.size,h.os,h.tape,h.output,h.old,fun it hit=>?_,by rw [hf]; exact h.nd,by rw [hf]; exact h.new,by rw [hf]; exact h.pub⟩
   rcases cd.1 hit with hit|hit
   ·exact h.its it (eM _ hit)
   ·simp at hit
    subst hit
    exact hg
  obtain ⟨h1,h2⟩:=h'.publishLast
  refine ⟨mE S g (.cells cur e),h2,⟨hl,.inr ⟨g,cap,cur,rfl,by simp [mE],hnc,hcm,hcs,ht⟩⟩,h1,fun B w' hB=>?_⟩
  have hpg:=hB.pub g (.cells cur e) (by simp [mE])
  have hfB:bu (B++[Item.row (.slice (some ⟨g,0,none⟩) n cap) e k n xs])=bu B++[g]:=by simp [bu,Item.foot,Value.ownBlock]
  refine ⟨hB.size,hB.os,hB.tape,hB.output,hB.old,fun it hit=>?_,?_,?_,?_⟩
  ·rcases cd.1 hit with hit|hit
   ·exact hB.its it hit
   ·simp at hit
    subst hit
    exact ⟨hl,.inr ⟨g,cap,cur,rfl,aR _,hpg.1,hnc,hcm,hcs,ht⟩⟩
  ·rw [hfB,nR]
   refine ⟨hB.nd,by simp,fun a ha b hb=>?_⟩
   simp at hb
   subst hb
   intro e'
   subst e'
   exact hpg.2 ha
  ·intro c hc
   rw [hfB] at hc
   rcases cd.1 hc with hc|hc
   ·exact hB.new c hc
   ·simp at hc
    subst hc
    exact h.new _ hg'
  ·intro c o hc
   have hne:c≠g:=fun e'=>by
    subst e'
    exact (h.pub c o hc).2 hg'
   have:=hB.pub c o (by simp only [mE]; rw [af hne]; exact hc)
   refine ⟨this.1,?_⟩
   rw [hfB]
   intro hc'
   rcases cd.1 hc' with hc'|hc'
   ·exact this.2 hc'
   ·simp at hc'
    exact hne hc'
theorem E0 {α:Type} (f:α->List Value) (k:Nat) (hf:∀ y,(f y).length=k):∀ (ys:List α) (i:Nat) (h:i<ys.length),((ys.flatMap f).drop (i * k)).take k=f ys[i]
 | [],i,h=>by simp at h
 | y::ys,0,h=>by
  rw [zc,wG,MH,N2 (by rw [hf]; exact aM _),Fe (by rw [hf]; exact aM _)]
  rfl
 | y::ys,i+1,h=>by
  rw [zc,jc,n3,<- DP,List.drop_left' (hf y)]
  exact E0 f k hf ys i (by simpa using h)
theorem Co {α:Type} (f:α->List Value) (k:Nat) (hf:∀ y,(f y).length=k):∀ ys:List α,(ys.flatMap f).length=ys.length * k
 | []=>by simp
 | y::ys=>by rw [zc,bh,hf,Co f k hf ys,bk,jc,n3]
theorem RowRd.rd {α:Type} {S:ad} {v:Value} {e:TypeId} {k:Nat} {f:α->List Value} {R:List Value->α->Prop} {ys:List α} (hf:∀ y,(f y).length=k) (hR:∀ y∈ys,R (f y) y)
  (h:RowRd S v e k ys.length (ys.flatMap f)):RdSl S k R v ys:=by
 obtain ⟨hl,h⟩:=h
 rcases h with ⟨rfl,h0⟩|⟨g,cap,cur,rfl,hS,hnc,hcm,hcs,ht⟩
 ·have:ys=[]:=iW h0
  subst this
  exact ⟨none,0,rfl,aM _,aR _,.inl rfl⟩
 ·refine ⟨_,cap,rfl,hnc,hcm,.inr ⟨g,0,cur,e,(0,0),rfl,hS,fun i hi=>?_⟩⟩
  have:=E0 f k hf ys i hi
  have hik:i * k+k<=ys.length * k:=by rw [<- jc]; exact iy k hi
  rw [<- ht,LR,sF,qN (by omega)] at this
  rw [ba,cZ,this]
  exact hR _ (bQ hi)

def ints (ns:List Int):List Value:=ns.flatMap fun n=>[.int .i64 n]
abbrev dX (v:Value) (ns:List Int):Item:=.row v b0 1 ns.length (ints ns)
theorem wK (ns:List Int) (n:Int):ints ns++[.int .i64 n]=ints (ns++[n]):=by simp [ints]
theorem RowRd.ints {S:ad} {v:Value} {e:TypeId} {ns:List Int} (h:RowRd S v e 1 ns.length (ints ns)):RdSl S 1 l4 v ns:=
 RowRd.rd (f:=fun n=>[Value.int .i64 n]) (fun _=>rfl) (fun _ _=>rfl) h
def PI (l:List Int) (n:Int):Bool:=l.any fun x=>decide (n=x)
def sE (l:List Int) (n:Int):List Int:=if PI l n=true then l else l++[n]
theorem ME (l:List Int) (n:Int):(sE l n).length<=l.length+1:=by
 unfold sE
 split <;> simp

theorem oF (s:Int) {xs:List Int} {S:ad} {v:Value} (h:RdSl S 1 l4 v xs) :
  Pure Tryz.prog CW [v,.int .i64 s] S (.int .i64 (ce (σ:=Unit) (fun _ x=>(decide (s=x),())) () xs 0).1):=by
 intro w hI
 have hlen:=h.le
 simp only [maxLen] at hlen
 refine ql.2 ?_
 dsimp only[ql,aO]
 refine aF h dD ?_
 refine ⟨fun i w'=>∃ k:Nat,k<=xs.length/\i=.int .i64 k/\ce (σ:=Unit) (fun _ x=>(decide (s=x),())) () (xs.drop k) k=ce (σ:=Unit) (fun _ x=>(decide (s=x),())) () xs 0/\Inv w [] [] S w',
  fun i _=>xs.length - (intOf i).toNat,⟨0,aR _,rfl,rfl,hI⟩,?_⟩
 intro t8 _ _ _ _ _ _ _ _ _ _ _ _ w'
 rintro ⟨k,hk,rfl,hrel,hI⟩
 refine bL ?_
 refine aH (fun hki=>?_) (fun hki=>?_)
 ·have hk':k<xs.length:=by omega
  rw [di hk',ce] at hrel
  refine hY hI h dD aI hk' (fun cs hcs=>hcs) ?_
  refine bl ?_
  refine aH (fun he=>done hI ?_) (fun he=>?_)
  ·rw [<- hrel,ai (by simpa using he)]
  ·refine bn (by omega) ?_
   rw [af (by simpa using he)] at hrel
   exact ⟨⟨k+1,hk',rfl,hrel,hI⟩,by simp [intOf]; omega⟩
 ·have:k=xs.length:=by omega
  subst this
  rw [dP,ce] at hrel
  exact done hI (by rw [<- hrel])
theorem sH (s:Int) {xs:List Int} {S:ad} {v:Value} (h:RdSl S 1 l4 v xs):Pure Tryz.prog wy [v,.int .i64 s] S (.bool (PI xs s)):=by
 intro w hI
 refine lA.2 ?_
 dsimp only[lA,aO]
 refine Run.callPure pk pB hI (oF s h) fun w' hI=>?_
 refine kX (done hI ?_)
 rw [(im _ xs () 0).1,jF]; rfl
end
section
open Go Go.RowKit
attribute [local irreducible] Run CondV aq aK

mutual
def vI:T->List Int->List Int
 | .mk k n _ ks,l=>ef ks (if k=1 then sE l n else l)
def ef:List T->List Int->List Int
 | [],l=>l
 | t::ts,l=>ef ts (vI t l)
end
mutual
def Kq:T->List Int->List Int
 | .mk k n _ ks,l=>if k=1 then sE l n else lY ks l
def lY:List T->List Int->List Int
 | [],l=>l
 | t::ts,l=>lY ts (Kq t l)
end
mutual
theorem z3:∀ (t:T) (l:List Int),((vI t l).length:Int)<=l.length+dZ t
 | .mk k n s ks,l=>by
  rw [vI,show dZ (T.mk k n s ks)=1+cR ks from rfl]
  have h1:=ME l n
  have:=vW ks (if k=1 then sE l n else l)
  split at this <;> rename_i hk <;> simp only [hk,if_true,if_false] at this ⊢ <;> omega
theorem vW:∀ (ts:List T) (l:List Int),((ef ts l).length:Int)<=l.length+cR ts
 | [],l=>by simp [ef,cR]
 | t::ts,l=>by
  rw [ef,show cR (t::ts)=dZ t+cR ts from rfl]
  have:=z3 t l
  have:=vW ts (vI t l)
  omega
end
theorem yD {t:T} (h:dJ t=true):gf t 30=true:=by
 rw [dJ,bN] at h
 exact h.1
abbrev OO (S:ad) (r:List Int):Value->List Item->ad->Prop:=fun v I' S'=>I'=[dX v r]/\S'=S

theorem Dn:∀ (t:T) (S:ad) (cs:List Value) (v:Value) (l:List Int),RdT S cs t->l.length+dZ t<=1000000000->Tri Tryz.prog HK [.agg cs.toArray,v] [dX v l] S (OO S (vI t l)):=by
 refine T.ind fun k n s ks ih S cs v l h hl=>?_
 intro w hI
 obtain ⟨kv,rfl,_,_,hs,hks⟩:=RdT.iff.1 h
 simp only [T.name,T.kids,T.kind,T.n] at hs hks ⊢
 have hlen:=hks.le
 simp only [maxLen] at hlen
 rw [show dZ (T.mk k n s ks)=1+cR ks from rfl] at hl
 have hcp:=fk ks
 have hal:=ME l n
 refine ul.2 ?_
 dsimp only[ul,aO]
 refine bp hI fun b2 w' hI=>?_
 have hI:=hI.perm (M:=[.blk b2 (.cells #[.int .i64 k,.int .i64 n,.string s,kv] ab),dX v l]) (List.Perm.swap _ _ _)
 refine ⟨fun t w'=>Inv w (bu [dX v l]) [.blk b2 (.cells #[.int .i64 k,.int .i64 n,.string s,kv] ab),dX t (if k=1 then sE l n else l)] S w',?_,?_⟩
 ·refine ⟨fun t w'=>t=.bool (decide (k=1) && !PI l n)/\Inv w (bu [dX v l]) [.blk b2 (.cells #[.int .i64 k,.int .i64 n,.string s,kv] ab),dX v l] S w',?_,?_⟩
  ·refine ae hI 0 rfl aV aI rfl ?_
   refine bl ?_
   cases h1:decide (k=1)
   ·refine rpG ?_
    exact ⟨rfl,hI⟩
   ·refine rpG ?_
    refine ae hI 0 rfl bm aI rfl ?_
    obtain ⟨S1,hle,hrd,hI,hback⟩:=Inv.lend (A:=[_]) hI
    refine Run.callPure vd vx hI (sH n hrd.ints) fun w' hI=>?_
    refine ct ?_
    refine rpG ?_
    exact ⟨rfl,hback _ _ hI⟩
  intro t16 _ _ _ _ _ _ _ _ _ w'
  rintro ⟨rfl,hI⟩
  refine aw (fun hb=>?_) (fun hb=>?_)
  ·simp only [bN,bC,oN] at hb
   refine ae hI 0 rfl bm aI rfl ?_
   refine d6 hI ra rfl (by omega) (by omega) fun b w' hI=>?_
   refine dy hI 1 (k:=1) [.int .i64 n] ra (by omega) rfl rfl ?_ ?_ (by omega) (by omega) fun v' w' hI=>?_
   ·intro j u hj
    rw [hI.cellL (i:=2) rfl]
    match j with
    | 0=>simpa [Value.cells] using hj
    | j+1=>simp at hj
   ·simp [Value.oneCell']
   ·rw [wK] at hI
    have hI:=hI.pick [true,true,false]
    rw [ai hb.1,sE,af (by rw [hb.2]; decide)]
    have e:Item.row v' b0 1 (l.length+1) (ints (l++[n]))=dX v' (l++[n]):=by simp [dX]
    rw [show List.length l+1=l.length+1 from rfl,e] at hI
    exact hI
  ·have:(if k=1 then sE l n else l)=l:=by
    split
    ·rename_i hk
     rw [sE]
     simp [hk] at hb
     rw [ai hb]
    ·rfl
   rw [this]
   exact hI
 intro t1 _ _ _ _ _ _ _ _ _ _ _ _ _ _ _ w' hI
 have hl1:((if k=1 then sE l n else l).length:Int)+cR ks<=1000000000:=by split <;> omega
 rw [show vI (.mk k n s ks) l=ef ks (if k=1 then sE l n else l) from by rw [vI]]
 generalize (if k=1 then sE l n else l)=l1 at hI hl1 ⊢
 refine ae hI 0 rfl av ao rfl ?_
 refine aF hks ah ?_
 refine ⟨fun i t w'=>∃ (j:Nat) (l':List Int),j<=ks.length/\i=.int .i64 j/\ef (ks.drop j) l'=ef ks l1/\l'.length+cR (ks.drop j)<=1000000000/\Inv w (bu [dX v l]) [.blk b2 (.cells #[.int .i64 k,.int .i64 n,.string s,kv] ab),dX t l'] S w',
  fun i _ _=>ks.length - (intOf i).toNat,⟨0,l1,aR _,rfl,rfl,by rw [MH]; omega,hI⟩,?_⟩
 intro t25 _ t1 _ _ _ _ _ _ _ w'
 rintro ⟨j,l',hj,rfl,hrel,hl',hI⟩
 refine bL ?_
 refine aH (fun hji=>?_) (fun hji=>?_)
 ·have hj':j<ks.length:=by omega
  rw [sw ks j hj'] at hl'
  rw [di hj',ef] at hrel
  have hc1:=fk (ks.drop (j+1))
  have hc2:=z3 ks[j] l'
  refine cj hI hks ah ac hj' (fun _ _=>RdT.length) fun cs' hcs'=>?_
  have hlc:=hcs'.length
  refine aP hI aZ fun b6 w' hI=>?_
  refine aA hI 2 rfl ac (by simpa using hlc) rfl (by simpa using hcs'.one) fun w' hI=>?_
  refine az hI 2 ac rfl (by simpa using hlc) ?_
  have hI:=hI.pick [true,true,false]
  refine Run.call (A:=[_]) ti uO hI (ih _ (bQ hj') S cs' t1 l' hcs' (by omega)) fun v' I' S' w'=>?_
  rintro ⟨rfl,rfl⟩ _ hI
  refine bn (by omega) ?_
  exact ⟨⟨j+1,_,hj',rfl,hrel,by omega,hI⟩,by simp [intOf]; omega⟩
 ·have:j=ks.length:=by omega
  subst this
  rw [dP,ef] at hrel
  subst hrel
  exact ⟨_,_,_,rfl,hI.pick [false,true],Ext.refl _ _ _,rfl,rfl⟩
theorem nn {ts:List T} {S:ad} {v:Value} (h:RdSl S 4 (RdT S) v ts) (hl:cR ts<=1000000000):Tri Tryz.prog Kk [v] [] S (OO S (ef ts [])):=by
 intro w hI
 have hlen:=h.le
 simp only [maxLen] at hlen
 refine ym.2 ?_
 dsimp only[ym,aG]
 refine aF h ah ?_
 refine ⟨fun i t w'=>∃ (j:Nat) (l':List Int),j<=ts.length/\i=.int .i64 j/\ef (ts.drop j) l'=ef ts []/\l'.length+cR (ts.drop j)<=1000000000/\Inv w [] [dX t l'] S w',
  fun i _ _=>ts.length - (intOf i).toNat,⟨0,[],aR _,rfl,rfl,by simpa using hl,hI.rowNil b0 1⟩,?_⟩
 intro t8 _ t3 _ _ _ _ _ _ _ w'
 rintro ⟨j,l',hj,rfl,hrel,hl',hI⟩
 refine bL ?_
 refine aH (fun hji=>?_) (fun hji=>?_)
 ·have hj':j<ts.length:=by omega
  rw [sw ts j hj'] at hl'
  rw [di hj',ef] at hrel
  have hc1:=fk (ts.drop (j+1))
  have hc2:=z3 ts[j] l'
  refine cj hI h ah ac hj' (fun _ _=>RdT.length) fun cs' hcs'=>?_
  have hlc:=hcs'.length
  refine aP hI aZ fun b6 w' hI=>?_
  refine aA hI 1 rfl ac (by simpa using hlc) rfl (by simpa using hcs'.one) fun w' hI=>?_
  refine az hI 1 ac rfl (by simpa using hlc) ?_
  have hI:=hI.pick [true,false]
  refine Run.call (A:=[]) ti uO hI (Dn _ S cs' t3 l' hcs' (by omega)) fun v' I' S' w'=>?_
  rintro ⟨rfl,rfl⟩ _ hI
  refine bn (by omega) ?_
  exact ⟨⟨j+1,_,hj',rfl,hrel,by omega,hI⟩,by simp [intOf]; omega⟩
 ·have:j=ts.length:=by omega
  subst this
  rw [dP,ef] at hrel
  subst hrel
  exact ⟨_,_,_,rfl,hI,Ext.refl _ _ _,rfl,rfl⟩
end
section
open Go Go.RowKit
attribute [local irreducible] Run CondV aq aK

section
variable {P:Program} {w w0:World} {X:List Nat} {L:List Item} {S:ad} {K:Value->Value->Value->World->Prop}
end
end
end Go.Proofs.YtcpgagfdeflbkaaGreatDoor
