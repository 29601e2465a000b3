/- The program's TermValid and what it calls. -/
import Derived.Test.YtgllldjiaglkcaaGreatDoorZDr0
namespace Go.Proofs.YtgllldjiaglkcaaGreatDoor
section
open Go Go.RowKit
attribute [local irreducible] Run CondV ai az

theorem dF (n low high:Int) (S:ad):Pure Tryz.prog Iq [.int .i64 n,.int .i64 low,.int .i64 high] S (.bool (decide (low<=n) && decide (n<=high))):=by
 intro w hI
 refine wG.2 ?_
 dsimp only[wG,fe]
 refine dO ?_
 refine hO (fun h=>?_) (fun h=>done hI (by rw [h]; rfl))
 refine dO ?_
 exact fj h (done hI (by rw [h]; rfl))
theorem mL (s:ByteArray) (hs:s.size<=maxLen) (S:ad):Pure Tryz.prog Bc [.string s] S (.bool (jh s)):=by
 intro w hI
 simp only [maxLen] at hs
 refine pp.2 ?_
 dsimp only[pp,aD]
 refine gf aF ?_
 refine ⟨fun i w'=>∃ k:Nat,k<=s.size/\i=.int .i64 k/\(s.data.toList.drop k).all oF=pi s/\Inv w [] [] S w',fun i _=>s.size - (intOf i).toNat,⟨0,Nat.zero_le _,rfl,rfl,hI⟩,?_⟩
 intro t6 _ _ _ _ _ _ _ _ _ _ _ _ _ _ _ w'
 rintro ⟨k,hk,rfl,hrel,hI⟩
 refine bI ?_
 refine aI (fun hki=>?_) (fun hki=>?_)
 ·have hk':k<s.size:=by omega
  have hstep:=F3 oF s.data.toList k (by rw [kN]; exact hk')
  rw [Gg s k hk'] at hstep
  refine ⟨fun t w'=>t=.bool (!oF s[k])/\Inv w [] [] S w',?_,?_⟩
  ·refine jc aF hk' ?_
   refine bI ?_
   refine DX (fun h=>⟨?_,hI⟩) (fun h=>?_)
   ·have h:=of_decide_eq_true h
    rw [oF,decide_eq_false (show ¬ 97<=s[k].toNat by omega)]; rfl
   ·refine jc aF hk' ?_
    refine dB ?_
    refine wk h ⟨?_,hI⟩
    have h:=of_decide_eq_false h
    rw [oF,decide_eq_true (show 97<=s[k].toNat by omega),Bool.true_and]
    by_cases h2:s[k].toNat<=122
    ·rw [decide_eq_true h2,decide_eq_false (by omega)]; rfl
    ·rw [decide_eq_false h2,decide_eq_true (by omega)]; rfl
  intro t _ _ _ _ _ _ _ _ _ w'
  rintro ⟨rfl,hI⟩
  refine aw (fun h=>done hI ?_) (fun h=>?_)
  ·simp at h
   rw [jh,<- hrel,hstep,h]; rfl
  ·simp at h
   refine bq (by omega) ?_
   refine ⟨⟨k+1,hk',rfl,by rw [<- hrel,hstep,h]; rfl,hI⟩,by simp [intOf]; omega⟩
 ·have:k=s.size:=by omega
  subst this
  have hl:pi s=true:=by rw [<- hrel,<- kN,List.drop_length]; rfl
  refine gf aF ?_
  refine Run.callPure dT dX hI (dF _ _ _ S) fun w' hI=>done hI ?_
  rw [jh,hl,Bool.true_and]
  congr 1
  rw [Bool.eq_iff_iff]
  simp
  omega
theorem Bg (S:ad):Tri Tryz.prog F7 [] [] S (BO S):=by
 intro w hI
 refine sm.2 ?_
 dsimp only[sm,j9]
 refine qV (v:=fun b=>.slice (some ⟨b,0,none⟩) 15 15) (o:=.cells uT eN) hI (by kernel_rfl) fun b w' hI=>?_
 have hnew:w.heap.size<=b:=by
  rcases hI.new b (by simp [bk,Item.foot]) with h|h
  ·simp [bk] at h
  ·exact h
 obtain ⟨h1,h2⟩:=Inv.publishLast (L:=[]) hI
 exact ⟨_,_,_,rfl,h1,FC hnew h2,rfl,h2,Fo (by simp [lh]; rfl)⟩
theorem qK (s:ByteArray) {xs:List ByteArray} {S:ad} {v:Value} (h:RdSl S 1 qh v xs) :
  Pure Tryz.prog vg [v,.string s] S (.int .i64 (bT (σ:=Unit) (fun _ x=>(decide (x=s),())) () xs 0).1):=by
 intro w hI
 have hlen:=h.le
 simp only [maxLen] at hlen
 refine jW.2 ?_
 dsimp only[jW,aX]
 refine aG h bF ?_
 refine ⟨fun i w'=>∃ k:Nat,k<=xs.length/\i=.int .i64 k/\bT (σ:=Unit) (fun _ x=>(decide (x=s),())) () (xs.drop k) k=bT (σ:=Unit) (fun _ x=>(decide (x=s),())) () xs 0/\Inv w [] [] S w',
  fun i _=>xs.length - (intOf i).toNat,⟨0,Nat.zero_le _,rfl,rfl,hI⟩,?_⟩
 intro t8 _ _ _ _ _ _ _ _ _ _ _ _ w'
 rintro ⟨k,hk,rfl,hrel,hI⟩
 refine bI ?_
 refine aI (fun hki=>?_) (fun hki=>?_)
 ·have hk':k<xs.length:=by omega
  rw [List.drop_eq_getElem_cons hk',bT] at hrel
  refine iP hI h bF aL hk' (fun cs hcs=>hcs) ?_
  refine bg ?_
  refine aI (fun he=>done hI ?_) (fun he=>?_)
  ·rw [<- hrel,if_pos (by simpa using he.symm)]
  ·refine bq (by omega) ?_
   rw [if_neg (by simpa using fun e=>he e.symm)] at hrel
   exact ⟨⟨k+1,hk',rfl,hrel,hI⟩,by simp [intOf]; omega⟩
 ·have:k=xs.length:=by omega
  subst this
  rw [List.drop_length,bT] at hrel
  exact done hI (by rw [<- hrel])
theorem dp (s:ByteArray) {xs:List ByteArray} {S:ad} {v:Value} (h:RdSl S 1 qh v xs) :
  Pure Tryz.prog p7 [v,.string s] S (.bool (xs.any fun x=>decide (x=s))):=by
 intro w hI
 refine ig.2 ?_
 dsimp only[ig,aX]
 refine Run.callPure tj su hI (qK s h) fun w' hI=>?_
 refine j0 (done hI ?_)
 rw [(jq _ xs () 0).1,gI]
theorem uQ (s:ByteArray) (hs:s.size<=maxLen) (S:ad):Pure Tryz.prog AZ [.string s] S (.bool (iH s)):=by
 intro w hI
 refine oU.2 ?_
 dsimp only[oU,aD]
 refine Run.callPure o9 oJ hI (mL s hs S) fun w' hI=>?_
 refine DX (fun h=>done hI ?_) (fun h=>?_)
 ·rw [iH,h]; rfl
 ·refine Run.call0 DN DC hI (Bg S) fun v' I' S' w'=>?_
  rintro ⟨rfl,_,hr⟩ hle hI
  refine Run.callPure dC dz hI (dp s hr) fun w' hI=>?_
  refine wk h (gh hI hle ?_)
  rw [iH,h]; rfl

abbrev iu (b:Nat) (c:Int):Item:=.blk b (.cells #[.int .i64 c] bE)
abbrev sy (bc:Nat) (S:ad) (r:Bool × Int):Value->List Item->ad->Prop:=fun v I' S'=>v=.bool r.1/\I'=[iu bc r.2]/\S'=S
theorem GN:∀ (t:T) (deep c:Int),c<=120->(d6 t deep c).1=true->c<(d6 t deep c).2/\(d6 t deep c).2<=120:=by
 intro t deep c hc h
 have:=zc t deep c
 rw [this.2 h]
 have h1:=this.1
 rw [h] at h1
 have h2:=h1.symm
 simp at h2
 have:=r8 t
 omega
theorem B0 (deep:Int):∀ (ks:List T) (c:Int),pR (fun c t=>(!(d6 t deep c).1,(d6 t deep c).2)) c ks=(!(jB ks deep c).1,(jB ks deep c).2)
 | [],c=>by simp [pR,jB]
 | t::ts,c=>by
  by_cases h:(d6 t deep c).1=true
  ·simp [pR,jB,h,B0 deep ts]
  ·simp [pR,jB,h]

theorem Ik:∀ (t:T) (S:ad) (cs:List Value) (deep c:Int) (bc:Nat),RdT S cs t->0<=deep->deep<=31->0<=c->c<=120->
  Tri Tryz.prog MB [.agg cs.toArray,.int .i64 deep,.pointer (some ⟨bc,0,none⟩)] [iu bc c] S (sy bc S (d6 t deep c)):=by
 refine T.ind fun k n s ks ih S cs deep c bc h hd0 hd1 hc0 hc1=>?_
 intro w hI
 obtain ⟨kv,rfl,_,_,hs,hks⟩:=RdT.iff.1 h
 simp only [T.name,T.kids,T.kind,T.n] at hs hks ⊢
 have hend:∀ {L:List Item} {w':World} {v:Value} (r:Bool × Int),Inv w (bk [iu bc c]) (iu bc r.2::L) S w'->v=.bool r.1->r=d6 (.mk k n s ks) deep c->
   ∃ v' I' S',Ending.returned v=.returned v'/\Inv w (bk [iu bc c]) I' S' w'/\Ext w.heap.size (bk [iu bc c]) S S'/\sy bc S (d6 (.mk k n s ks) deep c) v' I' S':=by
  intro L w' v r h1 h2 h3
  subst h3
  exact ⟨_,_,_,rfl,h1.pick [true],Ext.refl _ _ _,h2,rfl,rfl⟩
 refine BM.2 ?_
 dsimp only[BM,fe]
 refine bt hI fun b3 w' hI=>?_
 refine bt hI fun b4 w' hI=>?_
 refine bt hI fun b5 w' hI=>?_
 refine aS hI 3 Dd rfl rfl ?_
 refine ao ?_
 refine aS hI 0 aE rfl rfl ?_
 refine bq (by omega) ?_
 refine ao ?_
 refine cw hI 0 (n:=1) rfl (by rw [aE]; rfl) rfl (Nat.le_of_ble_eq_true rfl) (by simp [Value.cells]; rfl) fun w' hI=>?_
 refine ⟨fun t w'=>t=.bool (decide (120<c+1 ∨ 30<deep))/\Inv w (bk [iu bc c]) [iu bc (c+1),.blk b3 (.cells #[.int .i64 k,.int .i64 n,.string s,kv] ab),.blk b4 (.cells #[.int .i64 deep] bE),.blk b5 (.cells #[.pointer (some ⟨bc,0,none⟩)] mj)] S w',?_,?_⟩
 ·refine aS hI 3 Dd rfl rfl ?_
  refine ao ?_
  refine aS hI 0 aE rfl rfl ?_
  refine dB ?_
  refine DX (fun h=>⟨?_,hI⟩) (fun h=>?_)
  ·have h:=of_decide_eq_true h
   rw [decide_eq_true (show 120<c+1 ∨ 30<deep from .inl h)]
  ·refine aS hI 2 aE rfl rfl ?_
   refine dB ?_
   refine wk h ⟨?_,hI⟩
   have h:=of_decide_eq_false h
   congr 1
   rw [Bool.eq_iff_iff]
   simp
   omega
 intro t _ _ _ _ _ _ _ w'
 rintro ⟨rfl,hI⟩
 refine aI (fun hb=>?_) (fun hb=>?_)
 ·exact hend (false,c+1) hI rfl (by rw [d6,if_pos hb])
 have hsc:∀ r,(if k=1 ∨ k=2 then (cX (.mk k n s ks),c+1) else if k=3 then (if cX (.mk k n s ks) then jB ks (deep+1) (c+1) else (false,c+1)) else (false,c+1))=r->r=d6 (.mk k n s ks) deep c:=by
  intro r hr
  rw [d6,if_neg hb,hr]
 refine ae hI 1 rfl aQ aE rfl ?_
 refine aZ ?_
 refine aI (fun hk=>?_) (fun hk=>?_)
 ·have ho:cX (.mk k n s ks)=(decide (0<=n) && (decide (n<=25) && (decide (s=emptyB) && decide (ks.length=0)))):=by
   rw [cX]; exact if_pos hk
  have hfin:∀ {w':World} {b:Bool},Inv w (bk [iu bc c]) [iu bc (c+1),.blk b3 (.cells #[.int .i64 k,.int .i64 n,.string s,kv] ab),.blk b4 (.cells #[.int .i64 deep] bE),.blk b5 (.cells #[.pointer (some ⟨bc,0,none⟩)] mj)] S w'->
    b=cX (.mk k n s ks)->∃ v' I' S',Ending.returned (.bool b)=.returned v'/\Inv w (bk [iu bc c]) I' S' w'/\Ext w.heap.size (bk [iu bc c]) S S'/\sy bc S (d6 (.mk k n s ks) deep c) v' I' S':=
   fun hI hb=>hend (_,c+1) hI (by rw [hb]) (hsc _ (if_pos (.inl hk)))
  refine ae hI 1 rfl ba aE rfl ?_
  refine Run.callPure dT dX hI (dF _ _ _ S) fun w' hI=>?_
  refine hO (fun h2=>?_) (fun h2=>?_)
  ·have h2':=h2
   rw [Bool.and_eq_true] at h2'
   refine ae hI 1 rfl aR aL rfl ?_
   refine bg ?_
   refine fj h2 ?_
   refine hO (fun h3=>?_) (fun h3=>hfin hI ?_)
   ·refine ae hI 1 rfl au aj rfl ?_
    refine aG hks ah ?_
    refine aZ ?_
    refine fj h3 (hfin hI ?_)
    rw [ho,h2'.1,h2'.2,show decide (s=emptyB)=true from h3]
    simp
   ·rw [ho,h2'.1,h2'.2,show decide (s=emptyB)=false from h3]; rfl
  ·refine mh (hfin hI ?_)
   rw [ho,<- Bool.and_assoc,h2]; rfl
 refine aZ ?_
 refine aI (fun hk2=>?_) (fun hk2=>?_)
 ·have ho:cX (.mk k n s ks)=(decide (-999<=n) && (decide (n<=999) && (decide (s=emptyB) && decide (ks.length=0)))):=by
   rw [cX]; exact (if_neg hk).trans (if_pos hk2)
  have hfin:∀ {w':World} {b:Bool},Inv w (bk [iu bc c]) [iu bc (c+1),.blk b3 (.cells #[.int .i64 k,.int .i64 n,.string s,kv] ab),.blk b4 (.cells #[.int .i64 deep] bE),.blk b5 (.cells #[.pointer (some ⟨bc,0,none⟩)] mj)] S w'->
    b=cX (.mk k n s ks)->∃ v' I' S',Ending.returned (.bool b)=.returned v'/\Inv w (bk [iu bc c]) I' S' w'/\Ext w.heap.size (bk [iu bc c]) S S'/\sy bc S (d6 (.mk k n s ks) deep c) v' I' S':=
   fun hI hb=>hend (_,c+1) hI (by rw [hb]) (hsc _ (if_pos (.inr hk2)))
  refine ae hI 1 rfl ba aE rfl ?_
  refine Run.callPure dT dX hI (dF _ _ _ S) fun w' hI=>?_
  refine hO (fun h2=>?_) (fun h2=>?_)
  ·have h2':=h2
   rw [Bool.and_eq_true] at h2'
   refine ae hI 1 rfl aR aL rfl ?_
   refine bg ?_
   refine fj h2 ?_
   refine hO (fun h3=>?_) (fun h3=>hfin hI ?_)
   ·refine ae hI 1 rfl au aj rfl ?_
    refine aG hks ah ?_
    refine aZ ?_
    refine fj h3 (hfin hI ?_)
    rw [ho,h2'.1,h2'.2,show decide (s=emptyB)=true from h3]
    simp
   ·rw [ho,h2'.1,h2'.2,show decide (s=emptyB)=false from h3]; rfl
  ·refine mh (hfin hI ?_)
   rw [ho,<- Bool.and_assoc,h2]; rfl
 refine aZ ?_
 have hk12:¬ (k=1 ∨ k=2):=fun h=>h.elim hk hk2
 refine aI (fun hk3=>?_) (fun hk3=>?_)
 ·have ho:cX (.mk k n s ks)=(decide (n=0) && (iH s && decide (ks.length<=4))):=by
   rw [cX]; exact (if_neg hk).trans ((if_neg hk2).trans (if_pos hk3))
  refine ⟨fun t w'=>t=.bool (!cX (.mk k n s ks))/\Inv w (bk [iu bc c]) [iu bc (c+1),.blk b3 (.cells #[.int .i64 k,.int .i64 n,.string s,kv] ab),.blk b4 (.cells #[.int .i64 deep] bE),.blk b5 (.cells #[.pointer (some ⟨bc,0,none⟩)] mj)] S w',?_,?_⟩
  ·refine ae hI 1 rfl ba aE rfl ?_
   refine fP ?_
   refine DX (fun h1=>?_) (fun h1=>?_)
   ·have h1':decide (n=0)=false:=by simpa using h1
    refine QA ⟨?_,hI⟩
    rw [ho,h1']; rfl
   ·have h1':decide (n=0)=true:=by simpa using h1
    refine ae hI 1 rfl aR aL rfl ?_
    refine Run.callPure zX zC hI (uQ s hs S) fun w' hI=>?_
    refine bK ?_
    refine wk h1 ?_
    refine DX (fun h2=>⟨?_,hI⟩) (fun h2=>?_)
    ·have h2':iH s=false:=by simpa using h2
     rw [ho,h1',h2']; rfl
    ·have h2':iH s=true:=by simpa using h2
     refine ae hI 1 rfl au aj rfl ?_
     refine aG hks ah ?_
     refine dB ?_
     refine wk h2 ⟨?_,hI⟩
     rw [ho,h1',h2',Bool.true_and,Bool.true_and]
     congr 1
     rw [Bool.eq_iff_iff]
     simp
     omega
  intro t _ _ _ _ _ _ _ _ _ _ _ _ _ _ w'
  rintro ⟨rfl,hI⟩
  refine aw (fun hb1=>?_) (fun hb1=>?_)
  ·have hb1':cX (.mk k n s ks)=false:=by simpa using hb1
   exact hend (false,c+1) hI rfl (hsc _ (by rw [if_neg hk12,if_pos hk3,hb1']; rfl))
  ·have hb1':cX (.mk k n s ks)=true:=by simpa using hb1
   refine ae hI 1 rfl au aj rfl ?_
   refine jC ?_
   have hcb:Cb Tryz.prog HZ Tryz.f204 [.pointer (some ⟨b4,0,none⟩),.pointer (some ⟨b5,0,none⟩)] S
     (fun c:Int=>[iu bc c,.blk b4 (.cells #[.int .i64 deep] bE),.blk b5 (.cells #[.pointer (some ⟨bc,0,none⟩)] mj)]) (fun c=>0<=c/\c<=120)
     (fun c t=>(!(d6 t (deep+1) c).1,(d6 t (deep+1) c).2)) (fun v x=>∃ cs,v=.agg cs.toArray/\RdT S cs x) ks:=by
    refine ⟨Ft,Fq,fun st x _ hst hf=>?_,fun st x v hx hst=>?_⟩
    ·have:=GN x (deep+1) st hst.2 (by simpa using hf)
     omega
    ·rintro ⟨cs,rfl,hcs⟩ w1 hI
     have hl:=hcs.length
     refine wE.2 ?_
     dsimp only[wE,fe]
     refine bt hI fun b w' hI=>?_
     refine aA hI 3 ac rfl (by simpa [Value.cells] using hl) ?_
     refine aS hI 1 aE rfl rfl ?_
     refine bq (by omega) ?_
     refine aS hI 2 Dd rfl rfl ?_
     have hI:=hI.perm (M:=[.blk b4 (.cells #[.int .i64 deep] bE),.blk b5 (.cells #[.pointer (some ⟨bc,0,none⟩)] mj),.blk b (.cells (Value.agg cs.toArray).cells ab)]++[iu bc st])
      (List.perm_append_comm (l₁:=[_,_,_]) (l₂:=[iu bc st]))
     refine Run.call Cm BH hI (ih x hx S cs (deep+1) st bc hcs (by omega) (by omega) hst.1 hst.2) fun v' I' S' w'=>?_
     rintro ⟨rfl,rfl,rfl⟩ _ hI
     refine bK ?_
     have hI:=(hI.perm (M:=[iu bc (d6 x (deep+1) st).2]++[.blk b4 (.cells #[.int .i64 deep] bE),.blk b5 (.cells #[.pointer (some ⟨bc,0,none⟩)] mj),.blk b (.cells (Value.agg cs.toArray).cells ab)])
      List.perm_append_comm).pick [true,true,true,false]
     exact ⟨_,_,_,rfl,hI,Ext.refl _ _ _,rfl,rfl,rfl⟩
   have hI:=hI.perm (M:=[.blk b3 (.cells #[.int .i64 k,.int .i64 n,.string s,kv] ab)]++[iu bc (c+1),.blk b4 (.cells #[.int .i64 deep] bE),.blk b5 (.cells #[.pointer (some ⟨bc,0,none⟩)] mj)]) (List.Perm.swap _ _ _)
   refine Run.call c8 c9 hI (eU hcb hks ⟨by omega,by omega⟩) fun v' I' S' w'=>?_
   rintro ⟨rfl,rfl,rfl⟩ _ hI
   refine bK ?_
   rw [B0] at hI ⊢
   have hI:=hI.perm (M:=[iu bc (jB ks (deep+1) (c+1)).2,.blk b3 (.cells #[.int .i64 k,.int .i64 n,.string s,kv] ab),.blk b4 (.cells #[.int .i64 deep] bE),.blk b5 (.cells #[.pointer (some ⟨bc,0,none⟩)] mj)]) (List.Perm.swap _ _ _)
   refine hend (jB ks (deep+1) (c+1)) hI (by simp) (hsc _ (by rw [if_neg hk12,if_pos hk3,hb1']; rfl))
 ·exact hend (false,c+1) hI rfl (hsc _ (by rw [if_neg hk12,if_neg hk3]))

theorem lF {t:T} {S:ad} {cs:List Value} (h:RdT S cs t):Pure Tryz.prog AH [.agg cs.toArray] S (.bool (cW t)):=by
 intro w hI
 have hl:=h.length
 refine o8.2 ?_
 dsimp only[o8,aD]
 refine bt hI fun b1 w' hI=>?_
 refine aM hI Lp fun b2 w' hI=>?_
 refine cw hI 1 (n:=1) rfl (by rw [aE]; rfl) rfl (Nat.le_of_ble_eq_true rfl) (by simp [Value.cells]; rfl) fun w' hI=>?_
 refine aA hI 0 ac rfl (by simpa [Value.cells] using hl) ?_
 refine Run.call (A:=[_]) (I:=[iu b2 0]) Cm BH hI (Ik t S cs 1 0 b2 h (by omega) (by omega) (by omega) (by omega)) fun v' I' S' w'=>?_
 rintro ⟨rfl,rfl,rfl⟩ _ hI
 exact done hI (by rw [HE])
end
section
open Go Go.RowKit
attribute [local irreducible] Run CondV ai az

def nD:List ByteArray:=[⟨#[61]⟩,⟨#[92,61]⟩,⟨#[61,61]⟩,⟨#[60]⟩,⟨#[62]⟩,⟨#[61,60]⟩,⟨#[62,61]⟩,⟨#[61,58,61]⟩,⟨#[105,115]⟩]
def l8:List ByteArray:=[⟨#[116,114,117,101]⟩,⟨#[102,97,105,108]⟩]
def qn:List ByteArray:=[⟨#[118,97,114]⟩,⟨#[110,111,110,118,97,114]⟩,⟨#[97,116,111,109]⟩,⟨#[105,110,116]⟩]
def sI:List ByteArray:=[⟨#[43]⟩,⟨#[45]⟩]
def jH:List ByteArray:=[⟨#[42]⟩,⟨#[47,47]⟩,⟨#[109,111,100]⟩]
def bO (s:ByteArray) (l:List ByteArray):Bool:=l.any fun x=>decide (s=x)
def dl (s:ByteArray) (n:Int):Bool:=
 if bO s nD=true then decide (n=2)
 else if bO s l8=true then decide (n=0)
 else if bO s qn=true then decide (n=1)
 else if s=⟨#[97,114,103]⟩ then decide (n=3)
 else false
def bD (s:ByteArray):Int:=if bO s nD=true then 3 else if bO s sI=true then 2 else if bO s jH=true then 1 else 0
def dI (t:T):Bool:=decide (t.kind=3) && (decide (t.name=⟨#[33]⟩) && decide (t.kids.length=0))
def Ma (t:T):Bool:=decide (t.kind=3) && decide (t.kids.length=0)
def bB (t:T):Bool:=decide (t.kind=3) && dl t.name t.kids.length
def cG (t:T):Bool:=decide (t.kind=3) && (jh t.name && (!dl t.name t.kids.length && decide (bD t.name=0)))
def df (t:T):Bool:=cW t && (dI t || (cG t || bB t))
def bh (c:C):Bool:=decide (c.body.length<=6) && (c.body.all df && (cW c.head && cG c.head))
def cQ (l:List T):Bool:=decide (l.length<=6) && l.all df
def co (p:List C):Bool:=decide (p.length<=20) && p.all bh
theorem Kw (s:ByteArray):(!decide (0<bD s))=decide (bD s=0):=by
 unfold bD
 split
 ·rfl
 ·split
  ·rfl
  ·split <;> rfl

theorem kX (s:ByteArray) (n:Int) (S:ad):Pure Tryz.prog Au [.string s,.int .i64 n] S (.bool (dl s n)):=by
 intro w hI
 refine n4.2 ?_
 dsimp only[n4,aX]
 obtain ⟨q,hq⟩:∃ q,bO s nD=q:=⟨_,rfl⟩
 have hq1:=hq
 refine ⟨fun t w'=>t=.bool q/\Inv w [] [] S w',?_,?_⟩
 ·unfold bO nD at hq
  iterate 8
   refine bg ?_
   refine aw (fun h=>⟨by rw [List.any_cons,h] at hq; rw [h,<- hq]; rfl,hI⟩) (fun h=>?_)
   rw [List.any_cons,h,Bool.false_or] at hq
  refine bg ⟨?_,hI⟩
  rw [<- hq]; simp
 intro t _ _ _ _ _ _ _ _ _ w'
 rintro ⟨rfl,hI⟩
 refine aw (fun h=>?_) (fun h=>?_)
 ·exact aZ (done hI (by rw [dl,if_pos (hq1.trans h)]))
 have e1:dl s n=if bO s l8=true then decide (n=0) else if bO s qn=true then decide (n=1) else if s=⟨#[97,114,103]⟩ then decide (n=3) else false:=by
  rw [dl,if_neg (by rw [hq1,h]; decide)]
 clear hq hq1 h
 obtain ⟨q,hq⟩:∃ q,bO s l8=q:=⟨_,rfl⟩
 have hq1:=hq
 refine ⟨fun t w'=>t=.bool q/\Inv w [] [] S w',?_,?_⟩
 ·unfold bO l8 at hq
  refine bg ?_
  refine aw (fun h=>⟨by rw [List.any_cons,h] at hq; rw [h,<- hq]; rfl,hI⟩) (fun h=>?_)
  rw [List.any_cons,h,Bool.false_or] at hq
  refine bg ⟨?_,hI⟩
  rw [<- hq]; simp
 intro _ t _ w'
 rintro ⟨rfl,hI⟩
 refine aw (fun h=>?_) (fun h=>?_)
 ·exact aZ (done hI (by rw [e1,if_pos (hq1.trans h)]))
 rw [if_neg (by rw [hq1,h]; decide)] at e1
 clear hq hq1 h
 obtain ⟨q,hq⟩:∃ q,bO s qn=q:=⟨_,rfl⟩
 have hq1:=hq
 refine ⟨fun t w'=>t=.bool q/\Inv w [] [] S w',?_,?_⟩
 ·unfold bO qn at hq
  iterate 3
   refine bg ?_
   refine aw (fun h=>⟨by rw [List.any_cons,h] at hq; rw [h,<- hq]; rfl,hI⟩) (fun h=>?_)
   rw [List.any_cons,h,Bool.false_or] at hq
  refine bg ⟨?_,hI⟩
  rw [<- hq]; simp
 intro _ _ _ t _ w'
 rintro ⟨rfl,hI⟩
 refine aw (fun h=>?_) (fun h=>?_)
 ·exact aZ (done hI (by rw [e1,if_pos (hq1.trans h)]))
 rw [if_neg (by rw [hq1,h]; decide)] at e1
 refine bg ?_
 refine aI (fun h=>?_) (fun h=>?_)
 ·exact aZ (done hI (by rw [e1,if_pos h]))
 ·exact done hI (by rw [e1,if_neg h])
theorem u9 (s:ByteArray) (n:Int) (S:ad):Pure Tryz.prog AA [.string s,.int .i64 n] S (.bool (dl s n)):=by
 intro w hI
 refine ol.2 ?_
 dsimp only[ol,aX]
 obtain ⟨q,hq⟩:∃ q,bO s nD=q:=⟨_,rfl⟩
 have hq1:=hq
 refine ⟨fun t w'=>t=.bool q/\Inv w [] [] S w',?_,?_⟩
 ·unfold bO nD at hq
  iterate 8
   refine bg ?_
   refine aw (fun h=>⟨by rw [List.any_cons,h] at hq; rw [h,<- hq]; rfl,hI⟩) (fun h=>?_)
   rw [List.any_cons,h,Bool.false_or] at hq
  refine bg ⟨?_,hI⟩
  rw [<- hq]; simp
 intro t _ _ _ _ _ _ _ _ _ w'
 rintro ⟨rfl,hI⟩
 refine aw (fun h=>?_) (fun h=>?_)
 ·exact aZ (done hI (by rw [dl,if_pos (hq1.trans h)]))
 have e1:dl s n=if bO s l8=true then decide (n=0) else if bO s qn=true then decide (n=1) else if s=⟨#[97,114,103]⟩ then decide (n=3) else false:=by
  rw [dl,if_neg (by rw [hq1,h]; decide)]
 clear hq hq1 h
 obtain ⟨q,hq⟩:∃ q,bO s l8=q:=⟨_,rfl⟩
 have hq1:=hq
 refine ⟨fun t w'=>t=.bool q/\Inv w [] [] S w',?_,?_⟩
 ·unfold bO l8 at hq
  refine bg ?_
  refine aw (fun h=>⟨by rw [List.any_cons,h] at hq; rw [h,<- hq]; rfl,hI⟩) (fun h=>?_)
  rw [List.any_cons,h,Bool.false_or] at hq
  refine bg ⟨?_,hI⟩
  rw [<- hq]; simp
 intro _ t _ w'
 rintro ⟨rfl,hI⟩
 refine aw (fun h=>?_) (fun h=>?_)
 ·exact aZ (done hI (by rw [e1,if_pos (hq1.trans h)]))
 rw [if_neg (by rw [hq1,h]; decide)] at e1
 clear hq hq1 h
 obtain ⟨q,hq⟩:∃ q,bO s qn=q:=⟨_,rfl⟩
 have hq1:=hq
 refine ⟨fun t w'=>t=.bool q/\Inv w [] [] S w',?_,?_⟩
 ·unfold bO qn at hq
  iterate 3
   refine bg ?_
   refine aw (fun h=>⟨by rw [List.any_cons,h] at hq; rw [h,<- hq]; rfl,hI⟩) (fun h=>?_)
   rw [List.any_cons,h,Bool.false_or] at hq
  refine bg ⟨?_,hI⟩
  rw [<- hq]; simp
 intro _ _ _ t _ w'
 rintro ⟨rfl,hI⟩
 refine aw (fun h=>?_) (fun h=>?_)
 ·exact aZ (done hI (by rw [e1,if_pos (hq1.trans h)]))
 rw [if_neg (by rw [hq1,h]; decide)] at e1
 refine bg ?_
 refine aI (fun h=>?_) (fun h=>?_)
 ·exact aZ (done hI (by rw [e1,if_pos h]))
 ·exact done hI (by rw [e1,if_neg h])

theorem c5 (s:ByteArray) (S:ad):Pure Tryz.prog FA [.string s] S (.int .i64 (bD s)):=by
 intro w hI
 refine sJ.2 ?_
 dsimp only[sJ,aD]
 obtain ⟨q,hq⟩:∃ q,bO s nD=q:=⟨_,rfl⟩
 have hq1:=hq
 refine ⟨fun t w'=>t=.bool q/\Inv w [] [] S w',?_,?_⟩
 ·unfold bO nD at hq
  iterate 8
   refine bg ?_
   refine aw (fun h=>⟨by rw [List.any_cons,h] at hq; rw [h,<- hq]; rfl,hI⟩) (fun h=>?_)
   rw [List.any_cons,h,Bool.false_or] at hq
  refine bg ⟨?_,hI⟩
  rw [<- hq]; simp
 intro _ _ _ _ _ _ _ _ t _ w'
 rintro ⟨rfl,hI⟩
 refine aw (fun h=>?_) (fun h=>?_)
 ·exact done hI (by rw [show bD s=3 from if_pos (hq1.trans h)] <;> rfl)
 have e1:bD s=if bO s sI=true then 2 else if bO s jH=true then 1 else 0:=by
  rw [bD,if_neg (by rw [hq1,h]; decide)]
 clear hq hq1 h
 obtain ⟨q,hq⟩:∃ q,bO s sI=q:=⟨_,rfl⟩
 have hq1:=hq
 refine ⟨fun t w'=>t=.bool q/\Inv w [] [] S w',?_,?_⟩
 ·unfold bO sI at hq
  refine bg ?_
  refine aw (fun h=>⟨by rw [List.any_cons,h] at hq; rw [h,<- hq]; rfl,hI⟩) (fun h=>?_)
  rw [List.any_cons,h,Bool.false_or] at hq
  refine bg ⟨?_,hI⟩
  rw [<- hq]; simp
 intro _ t _ w'
 rintro ⟨rfl,hI⟩
 refine aw (fun h=>?_) (fun h=>?_)
 ·exact done hI (by rw [show bD s=2 from e1.trans (if_pos (hq1.trans h))] <;> rfl)
 rw [if_neg (by rw [hq1,h]; decide)] at e1
 clear hq hq1 h
 obtain ⟨q,hq⟩:∃ q,bO s jH=q:=⟨_,rfl⟩
 have hq1:=hq
 refine ⟨fun t w'=>t=.bool q/\Inv w [] [] S w',?_,?_⟩
 ·unfold bO jH at hq
  iterate 2
   refine bg ?_
   refine aw (fun h=>⟨by rw [List.any_cons,h] at hq; rw [h,<- hq]; rfl,hI⟩) (fun h=>?_)
   rw [List.any_cons,h,Bool.false_or] at hq
  refine bg ⟨?_,hI⟩
  rw [<- hq]; simp
 intro _ _ t _ w'
 rintro ⟨rfl,hI⟩
 refine aw (fun h=>?_) (fun h=>?_)
 ·exact done hI (by rw [show bD s=1 from e1.trans (if_pos (hq1.trans h))] <;> rfl)
 ·exact done hI (by rw [show bD s=0 from e1.trans (if_neg (by rw [hq1,h]; decide))] <;> rfl)
theorem wZ (s:ByteArray) (S:ad):Pure Tryz.prog Fr [.string s] S (.tuple #[.int .i64 (bD s),.bool (decide (bD s=1) || decide (bD s=2))]):=by
 intro w hI
 refine sj.2 ?_
 dsimp only[sj,aD]
 obtain ⟨q,hq⟩:∃ q,bO s nD=q:=⟨_,rfl⟩
 have hq1:=hq
 refine ⟨fun t w'=>t=.bool q/\Inv w [] [] S w',?_,?_⟩
 ·unfold bO nD at hq
  iterate 8
   refine bg ?_
   refine aw (fun h=>⟨by rw [List.any_cons,h] at hq; rw [h,<- hq]; rfl,hI⟩) (fun h=>?_)
   rw [List.any_cons,h,Bool.false_or] at hq
  refine bg ⟨?_,hI⟩
  rw [<- hq]; simp
 intro _ _ _ _ _ _ _ _ t _ w'
 rintro ⟨rfl,hI⟩
 refine aw (fun h=>?_) (fun h=>?_)
 ·exact done hI (by rw [show bD s=3 from if_pos (hq1.trans h)] <;> rfl)
 have e1:bD s=if bO s sI=true then 2 else if bO s jH=true then 1 else 0:=by
  rw [bD,if_neg (by rw [hq1,h]; decide)]
 clear hq hq1 h
 obtain ⟨q,hq⟩:∃ q,bO s sI=q:=⟨_,rfl⟩
 have hq1:=hq
 refine ⟨fun t w'=>t=.bool q/\Inv w [] [] S w',?_,?_⟩
 ·unfold bO sI at hq
  refine bg ?_
  refine aw (fun h=>⟨by rw [List.any_cons,h] at hq; rw [h,<- hq]; rfl,hI⟩) (fun h=>?_)
  rw [List.any_cons,h,Bool.false_or] at hq
  refine bg ⟨?_,hI⟩
  rw [<- hq]; simp
 intro _ t _ w'
 rintro ⟨rfl,hI⟩
 refine aw (fun h=>?_) (fun h=>?_)
 ·exact done hI (by rw [show bD s=2 from e1.trans (if_pos (hq1.trans h))] <;> rfl)
 rw [if_neg (by rw [hq1,h]; decide)] at e1
 clear hq hq1 h
 obtain ⟨q,hq⟩:∃ q,bO s jH=q:=⟨_,rfl⟩
 have hq1:=hq
 refine ⟨fun t w'=>t=.bool q/\Inv w [] [] S w',?_,?_⟩
 ·unfold bO jH at hq
  iterate 2
   refine bg ?_
   refine aw (fun h=>⟨by rw [List.any_cons,h] at hq; rw [h,<- hq]; rfl,hI⟩) (fun h=>?_)
   rw [List.any_cons,h,Bool.false_or] at hq
  refine bg ⟨?_,hI⟩
  rw [<- hq]; simp
 intro _ _ t _ w'
 rintro ⟨rfl,hI⟩
 refine aw (fun h=>?_) (fun h=>?_)
 ·exact done hI (by rw [show bD s=1 from e1.trans (if_pos (hq1.trans h))] <;> rfl)
 ·exact done hI (by rw [show bD s=0 from e1.trans (if_neg (by rw [hq1,h]; decide))] <;> rfl)

theorem E6 {t:T} {S:ad} {cs:List Value} (h:RdT S cs t):Pure Tryz.prog KN [.agg cs.toArray] S (.bool (dI t)):=by
 intro w hI
 obtain ⟨kv,rfl,_,_,hs,hks⟩:=RdT.iff.1 h
 obtain ⟨k,n,s,ks⟩:=t
 simp only [T.name,T.kids,T.kind,T.n] at hs hks ⊢
 refine zw.2 ?_
 dsimp only[zw,aD]
 refine bt hI fun b1 w' hI=>?_
 refine ae hI 0 rfl aQ aE rfl ?_
 refine aZ ?_
 rw [show dI (.mk k n s ks)=(decide (k=3) && (decide (s=⟨#[33]⟩) && decide (ks.length=0))) from rfl]
 cases h1:decide (k=3)
 ·refine rpG ?_
  exact done hI rfl
 ·refine rpG ?_
  refine ae hI 0 rfl aR aL rfl ?_
  refine bg ?_
  cases h2:decide (s=⟨#[33]⟩)
  ·refine rpG ?_
   exact done hI rfl
  ·refine rpG ?_
   refine ae hI 0 rfl au aj rfl ?_
   refine aG hks ah ?_
   refine aZ ?_
   refine rpG ?_
   exact done hI (by simp)

theorem qA {t:T} {S:ad} {cs:List Value} (h:RdT S cs t):Pure Tryz.prog FP [.agg cs.toArray] S (.bool (cG t)):=by
 intro w hI
 obtain ⟨kv,rfl,_,_,hs,hks⟩:=RdT.iff.1 h
 obtain ⟨k,n,s,ks⟩:=t
 simp only [T.name,T.kids,T.kind,T.n] at hs hks ⊢
 refine sK.2 ?_
 dsimp only[sK,aD]
 refine bt hI fun b1 w' hI=>?_
 refine ae hI 0 rfl aQ aE rfl ?_
 refine aZ ?_
 rw [show cG (.mk k n s ks)=(decide (k=3) && (jh s && (!dl s ks.length && decide (bD s=0)))) from rfl]
 cases h1:decide (k=3)
 ·refine rpG ?_
  exact done hI rfl
 ·refine rpG ?_
  refine ae hI 0 rfl aR aL rfl ?_
  refine Run.callPure wM wn hI (sz s hs S) fun w' hI=>?_
  cases h2:jh s
  ·refine rpG ?_
   exact done hI rfl
  ·refine rpG ?_
   refine ae hI 0 rfl aR aL rfl ?_
   refine ae hI 0 rfl au aj rfl ?_
   refine aG hks ah ?_
   refine Run.callPure pn pq hI (kX s _ S) fun w' hI=>?_
   refine bK ?_
   cases h3:dl s ks.length
   ·refine rpG ?_
    refine ae hI 0 rfl aR aL rfl ?_
    refine Run.callPure eh ew hI (c5 s S) fun w' hI=>?_
    refine aZ ?_
    refine rpG ?_
    exact done hI rfl
   ·refine rpG ?_
    exact done hI rfl

theorem Dc {t:T} {S:ad} {cs:List Value} (h:RdT S cs t):Pure Tryz.prog IH [.agg cs.toArray] S (.bool (dI t || (cG t || bB t))):=by
 intro w hI
 have h0:=h
 obtain ⟨kv,rfl,_,_,hs,hks⟩:=RdT.iff.1 h
 obtain ⟨k,n,s,ks⟩:=t
 simp only [T.name,T.kids,T.kind,T.n] at h0 hs hks ⊢
 refine we.2 ?_
 dsimp only[we,aD]
 refine bt hI fun b1 w' hI=>?_
 refine aA hI 0 ac rfl rfl ?_
 refine Run.callPure Hn Hi hI (E6 h0) fun w' hI=>?_
 cases h1:dI (.mk k n s ks)
 ·refine rpG ?_
  refine aA hI 0 ac rfl rfl ?_
  refine Run.callPure r6 sF hI (qA h0) fun w' hI=>?_
  cases h2:cG (.mk k n s ks)
  ·refine rpG ?_
   refine ae hI 0 rfl aQ aE rfl ?_
   refine aZ ?_
   rw [show bB (.mk k n s ks)=(decide (k=3) && dl s ks.length) from rfl]
   cases h3:decide (k=3)
   ·refine rpG ?_
    exact done hI rfl
   ·refine rpG ?_
    refine ae hI 0 rfl aR aL rfl ?_
    refine ae hI 0 rfl au aj rfl ?_
    refine aG hks ah ?_
    refine Run.callPure pn pq hI (kX s _ S) fun w' hI=>?_
    refine rpG ?_
    exact done hI rfl
  ·refine rpG ?_
   exact done hI rfl
 ·refine rpG ?_
  exact done hI rfl

theorem JC {t:T} (h:wT t<=1048576):di t<=4611686018427387904:=by
 have:=Ly t
 omega
theorem lB {t:T} {S:ad} {cs:List Value} (h:RdT S cs t) (hc:wT t<=1048576):Pure Tryz.prog AK [.agg cs.toArray] S (.bool (df t)):=by
 intro w hI
 have hl:=h.length
 refine pe.2 ?_
 dsimp only[pe,aD]
 refine bt hI fun b1 w' hI=>?_
 refine aA hI 0 ac rfl (by simpa [Value.cells] using hl) ?_
 refine Run.callPure oL nR hI (kY h (JC hc)) fun w' hI=>?_
 rw [df]
 cases h1:cW t
 ·refine rpG ?_
  exact done hI rfl
 ·refine rpG ?_
  refine aA hI 0 ac rfl (by simpa [Value.cells] using hl) ?_
  refine Run.callPure FU FH hI (Dc h) fun w' hI=>?_
  refine rpG ?_
  exact done hI rfl


theorem C1 {ts:List T} {t:T} (h:t∈ts):wT t<=wL ts:=by
 induction ts with
 | nil=>simp at h
 | cons u us ih=>
  rw [wL]
  rcases List.mem_cons.1 h with rfl|h
  ·omega
  ·have:=ih h; omega
theorem jk {c:C} {S:ad} {cs:List Value} (h:RdC S cs c) (hc:wC c<=1048576):Pure Tryz.prog xr [.agg cs.toArray] S (.bool (bh c)):=by
 intro w hI
 obtain ⟨hd,ks,rfl,h1,h2⟩:=h
 have h1':=h1
 obtain ⟨kv,rfl,g1,g2,g3,g4⟩:=RdT.iff.1 h1
 have hlen:=h2.le
 simp only [maxLen] at hlen
 unfold wC at hc
 refine kW.2 ?_
 dsimp only[kW,aD]
 refine bt hI fun b1 w' hI=>?_
 refine ⟨fun i w'=>∃ k:Nat,k<=c.body.length/\k<=7/\i=.int .i64 k/\(∀ j (h:j<c.body.length),j<k->df c.body[j]=true)/\Inv w [] [.blk b1 (.cells #[.int .i64 c.head.kind,.int .i64 c.head.n,.string c.head.name,kv,ks] af)] S w',
  fun i _=>c.body.length - (intOf i).toNat,⟨0,Nat.zero_le _,by omega,rfl,fun j _ h=>by omega,hI⟩,?_⟩
 intro t3 _ _ _ _ _ _ _ _ _ _ _ _ _ _ _ _ _ _ _ w'
 rintro ⟨k,hk,hk7,rfl,hrel,hI⟩
 refine ⟨fun t w'=>t=.bool (decide (k<c.body.length/\k<=6))/\Inv w [] [.blk b1 (.cells #[.int .i64 c.head.kind,.int .i64 c.head.n,.string c.head.name,kv,ks] af)] S w',?_,?_⟩
 ·refine ae hI 0 rfl bb aj rfl ?_
  refine aG h2 ah ?_
  refine bI ?_
  by_cases hki:(k:Int)<c.body.length
  ·rw [decide_eq_true hki]
   refine rpG ?_
   refine dO ?_
   refine rpG ?_
   refine ⟨?_,hI⟩
   congr 1
   rw [Bool.eq_iff_iff]; simp; omega
  ·rw [decide_eq_false hki]
   refine rpG ?_
   exact ⟨by rw [decide_eq_false (by omega)],hI⟩
 intro t _ _ _ _ _ _ _ _ w'
 rintro ⟨rfl,hI⟩
 refine aI (fun hki=>?_) (fun hki=>?_)
 ·obtain ⟨hk',hk6⟩:=hki
  refine ae hI 0 rfl bb aj rfl ?_
  refine ci hI h2 ah ac hk' (fun _ _=>RdT.length) fun cs' hcs'=>?_
  have hwm:=C1 (List.getElem_mem hk')
  refine Run.callPure n5 oi hI (lB hcs' (by omega)) fun w' hI=>?_
  refine bK ?_
  refine aw (fun hb=>done hI ?_) (fun hb=>?_)
  ·have hb':df c.body[k]=false:=by simpa using hb
   have:c.body.all df=false:=by
    rw [<- Bool.not_eq_true,List.all_eq_true]
    intro hall
    rw [hall _ (List.getElem_mem hk')] at hb'
    cases hb'
   rw [bh,this]
   simp
  ·have hb':df c.body[k]=true:=by simpa using hb
   refine bq (by omega) ?_
   refine ⟨⟨k+1,hk',by omega,rfl,fun j hj hjk=>?_,hI⟩,by simp [intOf]; omega⟩
   by_cases e:j=k
   ·subst e; exact hb'
   ·exact hrel j hj (by omega)
 ·refine ae hI 0 rfl bb aj rfl ?_
  refine aG h2 ah ?_
  refine dO ?_
  rw [bh]
  by_cases hle:c.body.length<=6
  ·have hall:c.body.all df=true:=by
    rw [List.all_eq_true]
    intro x hx
    obtain ⟨j,hj,rfl⟩:=List.getElem_of_mem hx
    exact hrel j hj (by omega)
   rw [decide_eq_true (show (c.body.length:Int)<=6 by omega),decide_eq_true hle,hall]
   refine rpG ?_
   refine aB bM ?_
   refine dQ hI 0 [.int .i64 c.head.kind,.int .i64 c.head.n,.string c.head.name,kv] ac rfl rfl ?_ ?_
   ·intro j v hj
    match j with
    | 0|1|2|3=>exact hj
    | j+4=>simp at hj
   refine Run.callPure oL nR hI (kY h1' (JC (by omega))) fun w' hI=>?_
   cases hv:cW c.head
   ·refine rpG ?_
    exact done hI rfl
   ·refine rpG ?_
    refine aB bM ?_
    refine dQ hI 0 [.int .i64 c.head.kind,.int .i64 c.head.n,.string c.head.name,kv] ac rfl rfl ?_ ?_
    ·intro j v hj
     match j with
     | 0|1|2|3=>exact hj
     | j+4=>simp at hj
    refine Run.callPure r6 sF hI (qA h1') fun w' hI=>?_
    refine rpG ?_
    exact done hI rfl
  ·rw [decide_eq_false (show ¬ (c.body.length:Int)<=6 by omega),decide_eq_false hle]
   refine rpG ?_
   exact done hI rfl

theorem rj {xs:List T} {S:ad} {v:Value} (h:RdSl S 4 (RdT S) v xs) (hc:wL xs<=1048576):Pure Tryz.prog zM [v] S (.bool (cQ xs)):=by
 intro w hI
 have hlen:=h.le
 simp only [maxLen] at hlen
 refine mZ.2 ?_
 dsimp only[mZ,aD]
 refine ⟨fun i w'=>∃ k:Nat,k<=xs.length/\k<=6+1/\i=.int .i64 k/\(∀ j (h:j<xs.length),j<k->df xs[j]=true)/\Inv w [] [] S w',
  fun i _=>xs.length - (intOf i).toNat,⟨0,Nat.zero_le _,by omega,rfl,fun j _ h=>by omega,hI⟩,?_⟩
 intro t3 _ _ _ _ _ _ _ _ _ _ _ _ _ _ _ _ _ w'
 rintro ⟨k,hk,hk7,rfl,hrel,hI⟩
 refine ⟨fun t w'=>t=.bool (decide (k<xs.length/\k<=6))/\Inv w [] [] S w',?_,?_⟩
 ·refine aG h ah ?_
  refine bI ?_
  by_cases hki:(k:Int)<xs.length
  ·rw [decide_eq_true hki]
   refine rpG ?_
   refine dO ?_
   refine rpG ?_
   refine ⟨?_,hI⟩
   congr 1
   rw [Bool.eq_iff_iff]; simp; omega
  ·rw [decide_eq_false hki]
   refine rpG ?_
   exact ⟨by rw [decide_eq_false (by omega)],hI⟩
 intro t _ _ _ _ _ _ _ w'
 rintro ⟨rfl,hI⟩
 refine aI (fun hki=>?_) (fun hki=>?_)
 ·obtain ⟨hk',hk6⟩:=hki
  refine ci hI h ah ac hk' (fun _ _=>RdT.length) fun cs' hcs'=>?_
  have hwm:=C1 (List.getElem_mem hk')
  refine Run.callPure n5 oi hI (lB hcs' (by omega)) fun w' hI=>?_
  refine bK ?_
  refine aw (fun hb=>done hI ?_) (fun hb=>?_)
  ·have hb':df xs[k]=false:=by simpa using hb
   have:xs.all df=false:=by
    rw [<- Bool.not_eq_true,List.all_eq_true]
    intro hall
    rw [hall _ (List.getElem_mem hk')] at hb'
    cases hb'
   rw [cQ,this,Bool.and_false]
  ·have hb':df xs[k]=true:=by simpa using hb
   refine bq (by omega) ?_
   refine ⟨⟨k+1,hk',by omega,rfl,fun j hj hjk=>?_,hI⟩,by simp [intOf]; omega⟩
   by_cases e:j=k
   ·subst e; exact hb'
   ·exact hrel j hj (by omega)
 ·refine aG h ah ?_
  refine dO ?_
  rw [cQ]
  refine done hI ?_
  by_cases hle:xs.length<=6
  ·have hall:xs.all df=true:=by
    rw [List.all_eq_true]
    intro x hx
    obtain ⟨j,hj,rfl⟩:=List.getElem_of_mem hx
    exact hrel j hj (by omega)
   rw [decide_eq_true (show (xs.length:Int)<=6 by omega),decide_eq_true hle,hall]; rfl
  ·rw [decide_eq_false (show ¬ (xs.length:Int)<=6 by omega),decide_eq_false hle]; rfl
theorem ov {xs:List C} {S:ad} {v:Value} (h:RdSl S 5 (RdC S) v xs) (hc:wP xs<=1048576):Pure Tryz.prog uw [v] S (.bool (co xs)):=by
 intro w hI
 have hlen:=h.le
 simp only [maxLen] at hlen
 refine jJ.2 ?_
 dsimp only[jJ,aD]
 refine ⟨fun i w'=>∃ k:Nat,k<=xs.length/\k<=20+1/\i=.int .i64 k/\(∀ j (h:j<xs.length),j<k->bh xs[j]=true)/\Inv w [] [] S w',
  fun i _=>xs.length - (intOf i).toNat,⟨0,Nat.zero_le _,by omega,rfl,fun j _ h=>by omega,hI⟩,?_⟩
 intro t3 _ _ _ _ _ _ _ _ _ _ _ _ _ _ _ _ _ w'
 rintro ⟨k,hk,hk7,rfl,hrel,hI⟩
 refine ⟨fun t w'=>t=.bool (decide (k<xs.length/\k<=20))/\Inv w [] [] S w',?_,?_⟩
 ·refine aG h aP ?_
  refine bI ?_
  by_cases hki:(k:Int)<xs.length
  ·rw [decide_eq_true hki]
   refine rpG ?_
   refine dO ?_
   refine rpG ?_
   refine ⟨?_,hI⟩
   congr 1
   rw [Bool.eq_iff_iff]; simp; omega
  ·rw [decide_eq_false hki]
   refine rpG ?_
   exact ⟨by rw [decide_eq_false (by omega)],hI⟩
 intro t _ _ _ _ _ _ _ w'
 rintro ⟨rfl,hI⟩
 refine aI (fun hki=>?_) (fun hki=>?_)
 ·obtain ⟨hk',hk6⟩:=hki
  refine ci hI h aP aY hk' (fun _ _=>RdC.length) fun cs' hcs'=>?_
  have hwm:=DW (List.getElem_mem hk')
  refine Run.callPure lz lo hI (jk hcs' (by omega)) fun w' hI=>?_
  refine bK ?_
  refine aw (fun hb=>done hI ?_) (fun hb=>?_)
  ·have hb':bh xs[k]=false:=by simpa using hb
   have:xs.all bh=false:=by
    rw [<- Bool.not_eq_true,List.all_eq_true]
    intro hall
    rw [hall _ (List.getElem_mem hk')] at hb'
    cases hb'
   rw [co,this,Bool.and_false]
  ·have hb':bh xs[k]=true:=by simpa using hb
   refine bq (by omega) ?_
   refine ⟨⟨k+1,hk',by omega,rfl,fun j hj hjk=>?_,hI⟩,by simp [intOf]; omega⟩
   by_cases e:j=k
   ·subst e; exact hb'
   ·exact hrel j hj (by omega)
 ·refine aG h aP ?_
  refine dO ?_
  rw [co]
  refine done hI ?_
  by_cases hle:xs.length<=20
  ·have hall:xs.all bh=true:=by
    rw [List.all_eq_true]
    intro x hx
    obtain ⟨j,hj,rfl⟩:=List.getElem_of_mem hx
    exact hrel j hj (by omega)
   rw [decide_eq_true (show (xs.length:Int)<=20 by omega),decide_eq_true hle,hall]; rfl
  ·rw [decide_eq_false (show ¬ (xs.length:Int)<=20 by omega),decide_eq_false hle]; rfl

theorem G3 (s:ByteArray) (S:ad):Pure Tryz.prog Mj [.string s] S (.bool (decide (0<bD s))):=by
 intro w hI
 refine Cr.2 ?_
 dsimp only[Cr,aD]
 refine Run.callPure DE CT hI (wZ s S) fun w' hI=>?_
 refine al rfl ?_
 refine al rfl ?_
 refine dB ?_
 exact done hI rfl
theorem ku {t:T} {S:ad} {cs:List Value} (h:RdT S cs t):Pure Tryz.prog Gx [.agg cs.toArray] S (.bool (bB t)):=by
 intro w hI
 obtain ⟨kv,rfl,_,_,hs,hks⟩:=RdT.iff.1 h
 obtain ⟨k,n,s,ks⟩:=t
 simp only [T.name,T.kids,T.kind,T.n] at hs hks ⊢
 refine tB.2 ?_
 dsimp only[tB,aD]
 refine bt hI fun b1 w' hI=>?_
 refine ae hI 0 rfl aQ aE rfl ?_
 refine aZ ?_
 rw [show bB (.mk k n s ks)=(decide (k=3) && dl s ks.length) from rfl]
 cases h3:decide (k=3)
 ·refine rpG ?_
  exact done hI rfl
 ·refine rpG ?_
  refine ae hI 0 rfl aR aL rfl ?_
  refine ae hI 0 rfl au aj rfl ?_
  refine aG hks ah ?_
  refine Run.callPure zN Aa hI (u9 s _ S) fun w' hI=>?_
  refine rpG ?_
  exact done hI rfl
theorem kA {t:T} {S:ad} {cs:List Value} (h:RdT S cs t):Pure Tryz.prog EM [.agg cs.toArray] S (.bool (cG t)):=by
 intro w hI
 have h0:=h
 obtain ⟨kv,rfl,_,_,hs,hks⟩:=RdT.iff.1 h
 obtain ⟨k,n,s,ks⟩:=t
 simp only [T.name,T.kids,T.kind,T.n] at h0 hs hks ⊢
 refine sd.2 ?_
 dsimp only[sd,aD]
 refine bt hI fun b1 w' hI=>?_
 refine ae hI 0 rfl aQ aE rfl ?_
 refine aZ ?_
 have hb:bB (.mk k n s ks)=(decide (k=3) && dl s ks.length):=rfl
 rw [show cG (.mk k n s ks)=(decide (k=3) && (jh s && (!dl s ks.length && decide (bD s=0)))) from rfl]
 cases h1:decide (k=3)
 ·refine rpG ?_
  exact done hI rfl
 ·rw [h1] at hb
  refine rpG ?_
  refine ae hI 0 rfl aR aL rfl ?_
  refine Run.callPure o9 oJ hI (mL s hs S) fun w' hI=>?_
  cases h2:jh s
  ·refine rpG ?_
   exact done hI rfl
  ·refine rpG ?_
   refine ae hI 0 rfl aR aL rfl ?_
   refine Run.callPure KF KD hI (G3 s S) fun w' hI=>?_
   refine bK ?_
   rw [Kw]
   cases h3:decide (bD s=0)
   ·refine rpG ?_
    exact done hI (by simp)
   ·refine rpG ?_
    refine aA hI 0 ac rfl rfl ?_
    refine Run.callPure mu mt hI (ku h0) fun w' hI=>?_
    refine bK ?_
    refine rpG ?_
    exact done hI (by rw [hb]; simp)
theorem tD {t:T} {S:ad} {cs:List Value} (h:RdT S cs t):Pure Tryz.prog HF [.agg cs.toArray] S (.bool (Ma t)):=by
 intro w hI
 obtain ⟨kv,rfl,_,_,hs,hks⟩:=RdT.iff.1 h
 obtain ⟨k,n,s,ks⟩:=t
 simp only [T.name,T.kids,T.kind,T.n] at hs hks ⊢
 refine wm.2 ?_
 dsimp only[wm,aD]
 refine bt hI fun b1 w' hI=>?_
 refine ae hI 0 rfl aQ aE rfl ?_
 refine aZ ?_
 rw [show Ma (.mk k n s ks)=(decide (k=3) && decide (ks.length=0)) from rfl]
 cases h3:decide (k=3)
 ·refine rpG ?_
  exact done hI rfl
 ·refine rpG ?_
  refine ae hI 0 rfl au aj rfl ?_
  refine aG hks ah ?_
  refine aZ ?_
  refine rpG ?_
  exact done hI (by simp)
theorem vx {t:T} {S:ad} {cs:List Value} (h:RdT S cs t):Pure Tryz.prog J0 [.agg cs.toArray] S (.bool (dI t)):=by
 intro w hI
 have h0:=h
 obtain ⟨kv,rfl,_,_,hs,hks⟩:=RdT.iff.1 h
 obtain ⟨k,n,s,ks⟩:=t
 simp only [T.name,T.kids,T.kind,T.n] at h0 hs hks ⊢
 refine zP.2 ?_
 dsimp only[zP,aD]
 refine bt hI fun b1 w' hI=>?_
 refine aA hI 0 ac rfl rfl ?_
 refine Run.callPure wd wh hI (tD h0) fun w' hI=>?_
 rw [show dI (.mk k n s ks)=(decide (k=3) && (decide (s=⟨#[33]⟩) && decide (ks.length=0))) from rfl]
 cases h1:Ma (.mk k n s ks)
 ·refine rpG ?_
  refine done hI ?_
  replace h1:(decide (k=3) && decide (ks.length=0))=false:=h1
  cases h2:decide (k=3)
  ·rfl
  ·rw [h2,Bool.true_and] at h1
   rw [h1,Bool.and_false]; rfl
 ·refine rpG ?_
  refine ae hI 0 rfl aR aL rfl ?_
  refine bg ?_
  refine rpG ?_
  refine done hI ?_
  replace h1:(decide (k=3) && decide (ks.length=0))=true:=h1
  rw [Bool.and_eq_true] at h1
  rw [h1.1,h1.2]; simp
theorem vd {t:T} {S:ad} {cs:List Value} (h:RdT S cs t):Pure Tryz.prog AL [.agg cs.toArray] S (.bool (df t)):=by
 intro w hI
 have hl:=h.length
 refine pg.2 ?_
 dsimp only[pg,aD]
 refine bt hI fun b1 w' hI=>?_
 refine aA hI 0 ac rfl (by simpa [Value.cells] using hl) ?_
 refine Run.callPure ot oY hI (lF h) fun w' hI=>?_
 rw [df]
 cases h1:cW t
 ·refine rpG ?_
  exact done hI rfl
 ·refine rpG ?_
  refine aA hI 0 ac rfl (by simpa [Value.cells] using hl) ?_
  refine Run.callPure mv mp hI (kA h) fun w' hI=>?_
  cases h2:cG t
  ·refine rpG ?_
   refine aA hI 0 ac rfl (by simpa [Value.cells] using hl) ?_
   refine Run.callPure mu mt hI (ku h) fun w' hI=>?_
   cases h3:bB t
   ·refine rpG ?_
    refine aA hI 0 ac rfl (by simpa [Value.cells] using hl) ?_
    refine Run.callPure yJ yb hI (vx h) fun w' hI=>?_
    refine rpG ?_
    exact done hI (by simp)
   ·refine rpG ?_
    exact done hI (by simp)
  ·refine rpG ?_
   exact done hI (by simp)

theorem EA {α:Type} (p:α->Bool):∀ xs:List α,(!xs.any fun x=>!p x)=xs.all p
 | []=>rfl
 | x::xs=>by
  rw [List.any_cons,List.all_cons,<- EA p xs]
  cases p x <;> simp

theorem pU {x:T} {S:ad} {cs:List Value} (h:RdT S cs x):Pure Tryz.prog lL [.agg cs.toArray] S (.bool (!df x)):=by
 intro w hI
 have hl:=h.length
 refine jQ.2 ?_
 dsimp only[jQ,aD]
 refine bt hI fun b1 w' hI=>?_
 refine aA hI 0 ac rfl (by simpa [Value.cells] using hl) ?_
 refine Run.callPure Ab zg hI (vd h) fun w' hI=>?_
 refine bK (done hI rfl)
theorem jZ {xs:List T} {S:ad} {v:Value} (h:RdSl S 4 (RdT S) v xs):Pure Tryz.prog ze [v] S (.bool (cQ xs)):=by
 intro w hI
 refine mD.2 ?_
 dsimp only[mD,aD]
 refine aG h ah ?_
 refine dO ?_
 rw [cQ]
 by_cases hle:xs.length<=6
 ·rw [decide_eq_true (show (xs.length:Int)<=6 by omega),decide_eq_true hle]
  refine rpG ?_
  have hcb:Cb Tryz.prog lL _ [] S (fun _:Unit=>[]) (fun _=>True) (fun _ x=>(!df x,())) (fun v x=>∃ cs,v=.agg cs.toArray/\RdT S cs x) xs:=
   Cb.pure [] tJ r2 fun x v _=>by
    rintro ⟨cs,rfl,hcs⟩ w1 hI
    exact (pU hcs w1 hI).mono fun e w' ⟨he,hI⟩=>⟨_,_,_,he,hI,Ext.refl _ _ _,rfl,rfl,rfl⟩
  refine Run.call0 c8 c9 hI (eU hcb h (st:=()) trivial) fun v' I' S' w'=>?_
  rintro ⟨rfl,rfl,rfl⟩ _ hI
  refine bK ?_
  refine rpG ?_
  refine done hI ?_
  rw [gI (fun x=>!df x) xs,EA]; rfl
 ·rw [decide_eq_false (show ¬ (xs.length:Int)<=6 by omega),decide_eq_false hle]
  refine rpG ?_
  exact done hI rfl
theorem rq {c:C} {S:ad} {cs:List Value} (h:RdC S cs c):Pure Tryz.prog xH [.agg cs.toArray] S (.bool (bh c)):=by
 intro w hI
 obtain ⟨hd,ks,rfl,h1,h2⟩:=h
 have h1':=h1
 obtain ⟨kv,rfl,g1,g2,g3,g4⟩:=RdT.iff.1 h1
 have hfin:bh c=(cW c.head && (cG c.head && cQ c.body)):=by
  unfold bh cQ
  cases cW c.head <;> cases cG c.head <;> simp
 refine lg.2 ?_
 dsimp only[lg,aD]
 rw [hfin]
 refine bt hI fun b1 w' hI=>?_
 refine aB bM ?_
 refine dQ hI 0 [.int .i64 c.head.kind,.int .i64 c.head.n,.string c.head.name,kv] ac rfl rfl ?_ ?_
 ·intro j v hj
  match j with
  | 0|1|2|3=>exact hj
  | j+4=>simp at hj
 refine Run.callPure ot oY hI (lF h1') fun w' hI=>?_
 cases hv:cW c.head
 ·refine rpG ?_
  exact done hI rfl
 ·refine rpG ?_
  refine aB bM ?_
  refine dQ hI 0 [.int .i64 c.head.kind,.int .i64 c.head.n,.string c.head.name,kv] ac rfl rfl ?_ ?_
  ·intro j v hj
   match j with
   | 0|1|2|3=>exact hj
   | j+4=>simp at hj
  refine Run.callPure mv mp hI (kA h1') fun w' hI=>?_
  cases hp:cG c.head
  ·refine rpG ?_
   exact done hI rfl
  ·refine rpG ?_
   refine ae hI 0 rfl bb aj rfl ?_
   refine Run.callPure m8 mT hI (jZ h2) fun w' hI=>?_
   refine rpG ?_
   exact done hI rfl

theorem nq {x:C} {S:ad} {cs:List Value} (h:RdC S cs x):Pure Tryz.prog i9 [.agg cs.toArray] S (.bool (!bh x)):=by
 intro w hI
 have hl:=h.length
 refine iC.2 ?_
 dsimp only[iC,aD]
 refine bt hI fun b1 w' hI=>?_
 refine aA hI 0 aY rfl (by simpa [Value.cells] using hl) ?_
 refine Run.callPure u0 tZ hI (rq h) fun w' hI=>?_
 refine bK (done hI rfl)
theorem fi {xs:List C} {S:ad} {v:Value} (h:RdSl S 5 (RdC S) v xs):Pure Tryz.prog uS [v] S (.bool (co xs)):=by
 intro w hI
 refine jO.2 ?_
 dsimp only[jO,aD]
 refine aG h aP ?_
 refine dO ?_
 rw [co]
 by_cases hle:xs.length<=20
 ·rw [decide_eq_true (show (xs.length:Int)<=20 by omega),decide_eq_true hle]
  refine rpG ?_
  have hcb:Cb Tryz.prog i9 _ [] S (fun _:Unit=>[]) (fun _=>True) (fun _ x=>(!bh x,())) (fun v x=>∃ cs,v=.agg cs.toArray/\RdC S cs x) xs:=
   Cb.pure [] pT pX fun x v _=>by
    rintro ⟨cs,rfl,hcs⟩ w1 hI
    exact (nq hcs w1 hI).mono fun e w' ⟨he,hI⟩=>⟨_,_,_,he,hI,Ext.refl _ _ _,rfl,rfl,rfl⟩
  refine Run.call0 ft fw hI (gk hcb h (st:=()) trivial) fun v' I' S' w'=>?_
  rintro ⟨rfl,rfl,rfl⟩ _ hI
  refine bK ?_
  refine rpG ?_
  refine done hI ?_
  rw [gI (fun x=>!bh x) xs,EA]; rfl
 ·rw [decide_eq_false (show ¬ (xs.length:Int)<=20 by omega),decide_eq_false hle]
  refine rpG ?_
  exact done hI rfl
theorem sk {xs:List T} {S:ad} {v:Value} (h:RdSl S 4 (RdT S) v xs):Pure Tryz.prog yT [v] S (.bool (cQ xs)):=by
 intro w hI
 refine nl.2 ?_
 dsimp only[nl,aD]
 refine Run.callPure m8 mT hI (jZ h) fun w' hI=>done hI rfl
end
section
open Go Go.RowKit
attribute [local irreducible] Run CondV ai az

def RowRd (S:ad) (v:Value) (e:TypeId) (k n:Nat) (xs:List Value):Prop:=
 xs.length=n * k/\((v=.slice none 0 0/\n=0) ∨ ∃ g cap cur,v=.slice (some ⟨g,0,none⟩) n cap/\S g=some (.cells cur e)/\n<=cap/\cap<=maxLen/\cur.size=cap * k/\cur.toList.take (n * k)=xs)
theorem Inv.lend {w0 w:World} {X:List Nat} {A:List Item} {S:ad} {v:Value} {e:TypeId} {k n:Nat} {xs:List Value} (h:Inv w0 X (A++[.row v e k n xs]) S w) :
  ∃ S',Sle S S'/\RowRd S' v e k n xs/\Inv w0 X A S' w/\∀ B w',Inv w0 X B S' w'->Inv w0 X (B++[.row v e k n xs]) S w':=by
 have hm:w.ownsRow 0 e k v n xs:=h.its (.row v e k n xs) (by simp)
 obtain ⟨hl,hm⟩:=hm
 rcases hm with ⟨rfl,rfl⟩|⟨g,cap,cur,rfl,_,hg,hnc,hcm,hcs,ht⟩
 ·have:xs=[]:=List.eq_nil_of_length_eq_zero (by rw [hl,Nat.zero_mul])
  subst this
  exact ⟨S,Sle.refl S,⟨hl,.inl ⟨rfl,rfl⟩⟩,h.sub (List.sublist_append_left _ _),fun B w' hB=>hB.rowNil e k⟩
 ·have hf:bk (A++[Item.blk g (.cells cur e)])=bk (A++[Item.row (.slice (some ⟨g,0,none⟩) n cap) e k n xs]):=by
   simp [bk,Item.foot,Value.ownBlock]
  have hg':g∈bk (A++[Item.row (.slice (some ⟨g,0,none⟩) n cap) e k n xs]):=by simp [bk,Item.foot,Value.ownBlock]
  have h':Inv w0 X (A++[Item.blk g (.cells cur e)]) S w:=by
   refine ⟨h.size,h.os,h.tape,h.output,h.old,fun it hit=>?_,by rw [hf]; exact h.nd,by rw [hf]; exact h.new,by rw [hf]; exact h.pub⟩
   rcases List.mem_append.1 hit with hit|hit
   ·exact h.its it (List.mem_append_left _ hit)
   ·simp at hit
    subst hit
    exact hg
  obtain ⟨h1,h2⟩:=h'.publishLast
  refine ⟨lh S g (.cells cur e),h2,⟨hl,.inr ⟨g,cap,cur,rfl,by simp [lh],hnc,hcm,hcs,ht⟩⟩,h1,fun B w' hB=>?_⟩
  have hpg:=hB.pub g (.cells cur e) (by simp [lh])
  have hfB:bk (B++[Item.row (.slice (some ⟨g,0,none⟩) n cap) e k n xs])=bk B++[g]:=by simp [bk,Item.foot,Value.ownBlock]
  refine ⟨hB.size,hB.os,hB.tape,hB.output,hB.old,fun it hit=>?_,?_,?_,?_⟩
  ·rcases List.mem_append.1 hit with hit|hit
   ·exact hB.its it hit
   ·simp at hit
    subst hit
    exact ⟨hl,.inr ⟨g,cap,cur,rfl,Nat.zero_le _,hpg.1,hnc,hcm,hcs,ht⟩⟩
  ·rw [hfB,List.nodup_append]
   refine ⟨hB.nd,by simp,fun a ha b hb=>?_⟩
   simp at hb
   subst hb
   intro e'
   subst e'
   exact hpg.2 ha
  ·intro c hc
   rw [hfB] at hc
   rcases List.mem_append.1 hc with hc|hc
   ·exact hB.new c hc
   ·simp at hc
    subst hc
    exact h.new _ hg'
  ·intro c o hc
   have hne:c≠g:=fun e'=>by
    subst e'
    exact (h.pub c o hc).2 hg'
   have:=hB.pub c o (by simp only [lh]; rw [if_neg hne]; exact hc)
   refine ⟨this.1,?_⟩
   rw [hfB]
   intro hc'
   rcases List.mem_append.1 hc' with hc'|hc'
   ·exact this.2 hc'
   ·simp at hc'
    exact hne hc'
theorem JB {α:Type} (f:α->List Value) (k:Nat) (hf:∀ y,(f y).length=k):∀ (ys:List α) (i:Nat) (h:i<ys.length),((ys.flatMap f).drop (i * k)).take k=f ys[i]
 | [],i,h=>by simp at h
 | y::ys,0,h=>by
  rw [List.flatMap_cons,Nat.zero_mul,List.drop_zero,List.take_append_of_le_length (by rw [hf]; exact Nat.le_refl _),List.take_of_length_le (by rw [hf]; exact Nat.le_refl _)]
  rfl
 | y::ys,i+1,h=>by
  rw [List.flatMap_cons,Nat.succ_mul,Nat.add_comm,<- List.drop_drop,List.drop_left' (hf y)]
  exact JB f k hf ys i (by simpa using h)
theorem RowRd.rd {α:Type} {S:ad} {v:Value} {e:TypeId} {k:Nat} {f:α->List Value} {R:List Value->α->Prop} {ys:List α} (hf:∀ y,(f y).length=k) (hR:∀ y∈ys,R (f y) y)
  (h:RowRd S v e k ys.length (ys.flatMap f)):RdSl S k R v ys:=by
 obtain ⟨hl,h⟩:=h
 rcases h with ⟨rfl,h0⟩|⟨g,cap,cur,rfl,hS,hnc,hcm,hcs,ht⟩
 ·have:ys=[]:=List.eq_nil_of_length_eq_zero h0
  subst this
  exact ⟨none,0,rfl,Nat.le_refl _,Nat.zero_le _,.inl rfl⟩
 ·refine ⟨_,cap,rfl,hnc,hcm,.inr ⟨g,0,cur,e,(0,0),rfl,hS,fun i hi=>?_⟩⟩
  have:=JB f k hf ys i hi
  have hik:i * k+k<=ys.length * k:=by rw [<- Nat.succ_mul]; exact Nat.mul_le_mul_right k hi
  rw [<- ht,List.drop_take,List.take_take,Nat.min_eq_left (by omega)] at this
  rw [aJ,Nat.zero_add,this]
  exact hR _ (List.getElem_mem hi)

def ints (ns:List Int):List Value:=ns.flatMap fun n=>[.int .i64 n]
abbrev dq (v:Value) (ns:List Int):Item:=.row v bE 1 ns.length (ints ns)
theorem vj (ns:List Int) (n:Int):ints ns++[.int .i64 n]=ints (ns++[n]):=by simp [ints]
theorem RowRd.ints {S:ad} {v:Value} {e:TypeId} {ns:List Int} (h:RowRd S v e 1 ns.length (ints ns)):RdSl S 1 lb v ns:=
 RowRd.rd (f:=fun n=>[Value.int .i64 n]) (fun _=>rfl) (fun _ _=>rfl) h
def LO (l:List Int) (n:Int):Bool:=l.any fun x=>decide (n=x)
def rx (l:List Int) (n:Int):List Int:=if LO l n=true then l else l++[n]
theorem IY (l:List Int) (n:Int):(rx l n).length<=l.length+1:=by
 unfold rx
 split <;> simp

theorem mR (s:Int) {xs:List Int} {S:ad} {v:Value} (h:RdSl S 1 lb v xs) :
  Pure Tryz.prog Bm [v,.int .i64 s] S (.int .i64 (bT (σ:=Unit) (fun _ x=>(decide (s=x),())) () xs 0).1):=by
 intro w hI
 have hlen:=h.le
 simp only [maxLen] at hlen
 refine nQ.2 ?_
 dsimp only[nQ,aX]
 refine aG h de ?_
 refine ⟨fun i w'=>∃ k:Nat,k<=xs.length/\i=.int .i64 k/\bT (σ:=Unit) (fun _ x=>(decide (s=x),())) () (xs.drop k) k=bT (σ:=Unit) (fun _ x=>(decide (s=x),())) () xs 0/\Inv w [] [] S w',
  fun i _=>xs.length - (intOf i).toNat,⟨0,Nat.zero_le _,rfl,rfl,hI⟩,?_⟩
 intro t8 _ _ _ _ _ _ _ _ _ _ _ _ w'
 rintro ⟨k,hk,rfl,hrel,hI⟩
 refine bI ?_
 refine aI (fun hki=>?_) (fun hki=>?_)
 ·have hk':k<xs.length:=by omega
  rw [List.drop_eq_getElem_cons hk',bT] at hrel
  refine iP hI h de aE hk' (fun cs hcs=>hcs) ?_
  refine aZ ?_
  refine aI (fun he=>done hI ?_) (fun he=>?_)
  ·rw [<- hrel,if_pos (by simpa using he)]
  ·refine bq (by omega) ?_
   rw [if_neg (by simpa using he)] at hrel
   exact ⟨⟨k+1,hk',rfl,hrel,hI⟩,by simp [intOf]; omega⟩
 ·have:k=xs.length:=by omega
  subst this
  rw [List.drop_length,bT] at hrel
  exact done hI (by rw [<- hrel])
theorem qO (s:Int) {xs:List Int} {S:ad} {v:Value} (h:RdSl S 1 lb v xs):Pure Tryz.prog um [v,.int .i64 s] S (.bool (LO xs s)):=by
 intro w hI
 refine jV.2 ?_
 dsimp only[jV,aX]
 refine Run.callPure oh o5 hI (mR s h) fun w' hI=>?_
 refine j0 (done hI ?_)
 rw [(jq _ xs () 0).1,gI]; rfl
end
section
open Go Go.RowKit
attribute [local irreducible] Run CondV ai az

mutual
def rP:T->List Int->List Int
 | .mk k n _ ks,l=>dt ks (if k=1 then rx l n else l)
def dt:List T->List Int->List Int
 | [],l=>l
 | t::ts,l=>dt ts (rP t l)
end
mutual
def EF:T->List Int->List Int
 | .mk k n _ ks,l=>if k=1 then rx l n else kK ks l
def kK:List T->List Int->List Int
 | [],l=>l
 | t::ts,l=>kK ts (EF t l)
end
mutual
theorem yV:∀ (t:T) (l:List Int),((rP t l).length:Int)<=l.length+di t
 | .mk k n s ks,l=>by
  rw [rP,show di (T.mk k n s ks)=1+cm ks from rfl]
  have h1:=IY l n
  have:=tk ks (if k=1 then rx l n else l)
  split at this <;> rename_i hk <;> simp only [hk,if_true,if_false] at this ⊢ <;> omega
theorem tk:∀ (ts:List T) (l:List Int),((dt ts l).length:Int)<=l.length+cm ts
 | [],l=>by simp [dt,cm]
 | t::ts,l=>by
  rw [dt,show cm (t::ts)=di t+cm ts from rfl]
  have:=yV t l
  have:=tk ts (rP t l)
  omega
end
theorem wy {t:T} (h:cW t=true):ff t 30=true:=by
 rw [cW,Bool.and_eq_true] at h
 exact h.1
abbrev MG (S:ad) (r:List Int):Value->List Item->ad->Prop:=fun v I' S'=>I'=[dq v r]/\S'=S

theorem AB:∀ (t:T) (S:ad) (cs:List Value) (v:Value) (l:List Int),RdT S cs t->l.length+di t<=1000000000->Tri Tryz.prog GO [.agg cs.toArray,v] [dq v l] S (MG S (rP t l)):=by
 refine T.ind fun k n s ks ih S cs v l h hl=>?_
 intro w hI
 obtain ⟨kv,rfl,_,_,hs,hks⟩:=RdT.iff.1 h
 simp only [T.name,T.kids,T.kind,T.n] at hs hks ⊢
 have hlen:=hks.le
 simp only [maxLen] at hlen
 rw [show di (T.mk k n s ks)=1+cm ks from rfl] at hl
 have hcp:=ey ks
 have hal:=IY l n
 refine tH.2 ?_
 dsimp only[tH,aX]
 refine bt hI fun b2 w' hI=>?_
 have hI:=hI.perm (M:=[.blk b2 (.cells #[.int .i64 k,.int .i64 n,.string s,kv] ab),dq v l]) (List.Perm.swap _ _ _)
 refine ⟨fun t w'=>Inv w (bk [dq v l]) [.blk b2 (.cells #[.int .i64 k,.int .i64 n,.string s,kv] ab),dq t (if k=1 then rx l n else l)] S w',?_,?_⟩
 ·refine ⟨fun t w'=>t=.bool (decide (k=1) && !LO l n)/\Inv w (bk [dq v l]) [.blk b2 (.cells #[.int .i64 k,.int .i64 n,.string s,kv] ab),dq v l] S w',?_,?_⟩
  ·refine ae hI 0 rfl aQ aE rfl ?_
   refine aZ ?_
   cases h1:decide (k=1)
   ·refine rpG ?_
    exact ⟨rfl,hI⟩
   ·refine rpG ?_
    refine ae hI 0 rfl ba aE rfl ?_
    obtain ⟨S1,hle,hrd,hI,hback⟩:=Inv.lend (A:=[_]) hI
    refine Run.callPure tS sM hI (qO n hrd.ints) fun w' hI=>?_
    refine bK ?_
    refine rpG ?_
    exact ⟨rfl,hback _ _ hI⟩
  intro t16 _ _ _ _ _ _ _ _ _ w'
  rintro ⟨rfl,hI⟩
  refine aw (fun hb=>?_) (fun hb=>?_)
  ·simp only [Bool.and_eq_true,decide_eq_true_eq,Bool.not_eq_true'] at hb
   refine ae hI 0 rfl ba aE rfl ?_
   refine dD hI py rfl (by omega) (by omega) fun b w' hI=>?_
   refine dn hI 1 (k:=1) [.int .i64 n] py (by omega) rfl rfl ?_ ?_ (by omega) (by omega) fun v' w' hI=>?_
   ·intro j u hj
    rw [hI.cellL (i:=2) rfl]
    match j with
    | 0=>simpa [Value.cells] using hj
    | j+1=>simp at hj
   ·simp [Value.oneCell']
   ·rw [vj] at hI
    have hI:=hI.pick [true,true,false]
    rw [if_pos hb.1,rx,if_neg (by rw [hb.2]; decide)]
    have e:Item.row v' bE 1 (l.length+1) (ints (l++[n]))=dq v' (l++[n]):=by simp [dq]
    rw [show List.length l+1=l.length+1 from rfl,e] at hI
    exact hI
  ·have:(if k=1 then rx l n else l)=l:=by
    split
    ·rename_i hk
     rw [rx]
     simp [hk] at hb
     rw [if_pos hb]
    ·rfl
   rw [this]
   exact hI
 intro t1 _ _ _ _ _ _ _ _ _ _ _ _ _ _ _ w' hI
 have hl1:((if k=1 then rx l n else l).length:Int)+cm ks<=1000000000:=by split <;> omega
 rw [show rP (.mk k n s ks) l=dt ks (if k=1 then rx l n else l) from by rw [rP]]
 generalize (if k=1 then rx l n else l)=l1 at hI hl1 ⊢
 refine ae hI 0 rfl au aj rfl ?_
 refine aG hks ah ?_
 refine ⟨fun i t w'=>∃ (j:Nat) (l':List Int),j<=ks.length/\i=.int .i64 j/\dt (ks.drop j) l'=dt ks l1/\l'.length+cm (ks.drop j)<=1000000000/\Inv w (bk [dq v l]) [.blk b2 (.cells #[.int .i64 k,.int .i64 n,.string s,kv] ab),dq t l'] S w',
  fun i _ _=>ks.length - (intOf i).toNat,⟨0,l1,Nat.zero_le _,rfl,rfl,by rw [List.drop_zero]; omega,hI⟩,?_⟩
 intro t25 _ t1 _ _ _ _ _ _ _ w'
 rintro ⟨j,l',hj,rfl,hrel,hl',hI⟩
 refine bI ?_
 refine aI (fun hji=>?_) (fun hji=>?_)
 ·have hj':j<ks.length:=by omega
  rw [qU ks j hj'] at hl'
  rw [List.drop_eq_getElem_cons hj',dt] at hrel
  have hc1:=ey (ks.drop (j+1))
  have hc2:=yV ks[j] l'
  refine ci hI hks ah ac hj' (fun _ _=>RdT.length) fun cs' hcs'=>?_
  have hlc:=hcs'.length
  refine aM hI aU fun b6 w' hI=>?_
  refine av hI 2 rfl ac (by simpa using hlc) rfl (by simpa using hcs'.one) fun w' hI=>?_
  refine aA hI 2 ac rfl (by simpa using hlc) ?_
  have hI:=hI.pick [true,true,false]
  refine Run.call (A:=[_]) rK ti hI (ih _ (List.getElem_mem hj') S cs' t1 l' hcs' (by omega)) fun v' I' S' w'=>?_
  rintro ⟨rfl,rfl⟩ _ hI
  refine bq (by omega) ?_
  exact ⟨⟨j+1,_,hj',rfl,hrel,by omega,hI⟩,by simp [intOf]; omega⟩
 ·have:j=ks.length:=by omega
  subst this
  rw [List.drop_length,dt] at hrel
  subst hrel
  exact ⟨_,_,_,rfl,hI.pick [false,true],Ext.refl _ _ _,rfl,rfl⟩
theorem lS {ts:List T} {S:ad} {v:Value} (h:RdSl S 4 (RdT S) v ts) (hl:cm ts<=1000000000):Tri Tryz.prog HU [v] [] S (MG S (dt ts [])):=by
 intro w hI
 have hlen:=h.le
 simp only [maxLen] at hlen
 refine vw.2 ?_
 dsimp only[vw,aD]
 refine aG h ah ?_
 refine ⟨fun i t w'=>∃ (j:Nat) (l':List Int),j<=ts.length/\i=.int .i64 j/\dt (ts.drop j) l'=dt ts []/\l'.length+cm (ts.drop j)<=1000000000/\Inv w [] [dq t l'] S w',
  fun i _ _=>ts.length - (intOf i).toNat,⟨0,[],Nat.zero_le _,rfl,rfl,by simpa using hl,hI.rowNil bE 1⟩,?_⟩
 intro t8 _ t3 _ _ _ _ _ _ _ w'
 rintro ⟨j,l',hj,rfl,hrel,hl',hI⟩
 refine bI ?_
 refine aI (fun hji=>?_) (fun hji=>?_)
 ·have hj':j<ts.length:=by omega
  rw [qU ts j hj'] at hl'
  rw [List.drop_eq_getElem_cons hj',dt] at hrel
  have hc1:=ey (ts.drop (j+1))
  have hc2:=yV ts[j] l'
  refine ci hI h ah ac hj' (fun _ _=>RdT.length) fun cs' hcs'=>?_
  have hlc:=hcs'.length
  refine aM hI aU fun b6 w' hI=>?_
  refine av hI 1 rfl ac (by simpa using hlc) rfl (by simpa using hcs'.one) fun w' hI=>?_
  refine aA hI 1 ac rfl (by simpa using hlc) ?_
  have hI:=hI.pick [true,false]
  refine Run.call (A:=[]) rK ti hI (AB _ S cs' t3 l' hcs' (by omega)) fun v' I' S' w'=>?_
  rintro ⟨rfl,rfl⟩ _ hI
  refine bq (by omega) ?_
  exact ⟨⟨j+1,_,hj',rfl,hrel,by omega,hI⟩,by simp [intOf]; omega⟩
 ·have:j=ts.length:=by omega
  subst this
  rw [List.drop_length,dt] at hrel
  subst hrel
  exact ⟨_,_,_,rfl,hI,Ext.refl _ _ _,rfl,rfl⟩
end
section
open Go Go.RowKit
attribute [local irreducible] Run CondV ai az

section
variable {P:Program} {w w0:World} {X:List Nat} {L:List Item} {S:ad} {K:Value->Value->Value->World->Prop}
end
end
end Go.Proofs.YtgllldjiaglkcaaGreatDoor
