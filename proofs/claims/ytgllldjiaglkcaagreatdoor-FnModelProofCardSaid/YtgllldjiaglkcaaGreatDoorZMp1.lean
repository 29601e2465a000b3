/- The program's TermValid and what it calls. -/
import Derived.Test.YtgllldjiaglkcaaGreatDoorZMp0
namespace Go.Proofs.YtgllldjiaglkcaaGreatDoor
section
open Go Go.RowKit
attribute [local irreducible] Run CondV az aO

theorem eR (n low high:Int) (S:ae):Pure Tryz.prog Ti [.int .i64 n,.int .i64 low,.int .i64 high] S (.bool (decide (low<=n) && decide (n<=high))):=by
 intro w hI
 refine CM.2 ?_
 dsimp only[CM,dN]
 refine gy ?_
 refine kT (fun h=>?_) (fun h=>done hI (by rw [h]; rfl))
 refine gy ?_
 exact iy h (done hI (by rw [h]; rfl))
theorem rS (s:ByteArray) (hs:s.size<=maxLen) (S:ae):Pure Tryz.prog IJ [.string s] S (.bool (m8 s)):=by
 intro w hI
 simp only [maxLen] at hs
 refine sF.2 ?_
 dsimp only[sF,aM]
 refine mj ba ?_
 refine ⟨fun i w'=>∃ k:Nat,k<=s.size/\i=.int .i64 k/\(s.data.toList.drop k).all tT=uI s/\Inv w [] [] S w',fun i _=>s.size - (intOf i).toNat,⟨0,be _,rfl,rfl,hI⟩,?_⟩
 intro t6 _ _ _ _ _ _ _ _ _ _ _ _ _ _ _ w'
 rintro ⟨k,hk,rfl,hrel,hI⟩
 refine bH ?_
 refine aL (fun hki=>?_) (fun hki=>?_)
 ·have hk':k<s.size:=by omega
  have hstep:=pU tT s.data.toList k (by rw [pj]; exact hk')
  rw [Qo s k hk'] at hstep
  refine ⟨fun t w'=>t=.bool (!tT s[k])/\Inv w [] [] S w',?_,?_⟩
  ·refine mh ba hk' ?_
   refine bH ?_
   refine Mi (fun h=>⟨?_,hI⟩) (fun h=>?_)
   ·have h:=of_decide_eq_true h
    rw [tT,aP (show ¬ 97<=s[k].toNat by omega)]; rfl
   ·refine mh ba hk' ?_
    refine dA ?_
    refine C9 h ⟨?_,hI⟩
    have h:=of_decide_eq_false h
    rw [tT,aI (show 97<=s[k].toNat by omega),dg]
    by_cases h2:s[k].toNat<=122
    ·rw [aI h2,aP (by omega)]; rfl
    ·rw [aP h2,aI (by omega)]; rfl
  intro t _ _ _ _ _ _ _ _ _ w'
  rintro ⟨rfl,hI⟩
  refine aw (fun h=>done hI ?_) (fun h=>?_)
  ·simp at h
   rw [m8,<- hrel,hstep,h]; rfl
  ·simp at h
   refine bp (by omega) ?_
   refine ⟨⟨k+1,hk',rfl,by rw [<- hrel,hstep,h]; rfl,hI⟩,by simp [intOf]; omega⟩
 ·have:k=s.size:=by omega
  subst this
  have hl:uI s=true:=by rw [<- hrel,<- pj,dO]; rfl
  refine mj ba ?_
  refine Run.callPure fu fD hI (eR _ _ _ S) fun w' hI=>done hI ?_
  rw [m8,hl,dg]
  congr 1
  rw [mf]
  simp
  omega
theorem JG (S:ae):Tri Tryz.prog Ox [] [] S (Kp S):=by
 intro w hI
 refine zF.2 ?_
 dsimp only[zF,rv]
 refine wX (v:=fun b=>.slice (some ⟨b,0,none⟩) 15 15) (o:=.cells AZ g9) hI (by kernel_rfl) fun b w' hI=>?_
 have hnew:w.heap.size<=b:=by
  rcases hI.new b (by simp [bE,Item.foot]) with h|h
  ·simp [bE] at h
  ·exact h
 obtain ⟨h1,h2⟩:=Inv.publishLast (L:=[]) hI
 exact ⟨_,_,_,rfl,h1,PX hnew h2,rfl,h2,PH (by simp [mS]; rfl)⟩
theorem xy (s:ByteArray) {xs:List ByteArray} {S:ae} {v:Value} (h:RdSl S 1 zV v xs) :
  Pure Tryz.prog BE [v,.string s] S (.int .i64 (co (σ:=Unit) (fun _ x=>(decide (x=s),())) () xs 0).1):=by
 intro w hI
 have hlen:=h.le
 simp only [maxLen] at hlen
 refine n9.2 ?_
 dsimp only[n9,aY]
 refine aF h cR ?_
 refine ⟨fun i w'=>∃ k:Nat,k<=xs.length/\i=.int .i64 k/\co (σ:=Unit) (fun _ x=>(decide (x=s),())) () (xs.drop k) k=co (σ:=Unit) (fun _ x=>(decide (x=s),())) () xs 0/\Inv w [] [] S w',
  fun i _=>xs.length - (intOf i).toNat,⟨0,be _,rfl,rfl,hI⟩,?_⟩
 intro t8 _ _ _ _ _ _ _ _ _ _ _ _ w'
 rintro ⟨k,hk,rfl,hrel,hI⟩
 refine bH ?_
 refine aL (fun hki=>?_) (fun hki=>?_)
 ·have hk':k<xs.length:=by omega
  rw [cU hk',co] at hrel
  refine i5 hI h cR aU hk' (fun cs hcs=>hcs) ?_
  refine bS ?_
  refine aL (fun he=>done hI ?_) (fun he=>?_)
  ·rw [<- hrel,ai (by simpa using he.symm)]
  ·refine bp (by omega) ?_
   rw [ah (by simpa using fun e=>he e.symm)] at hrel
   exact ⟨⟨k+1,hk',rfl,hrel,hI⟩,by simp [intOf]; omega⟩
 ·have:k=xs.length:=by omega
  subst this
  rw [dO,co] at hrel
  exact done hI (by rw [<- hrel])
theorem gH (s:ByteArray) {xs:List ByteArray} {S:ae} {v:Value} (h:RdSl S 1 zV v xs) :
  Pure Tryz.prog vw [v,.string s] S (.bool (xs.any fun x=>decide (x=s))):=by
 intro w hI
 refine li.2 ?_
 dsimp only[li,aY]
 refine Run.callPure zn Aj hI (xy s h) fun w' hI=>?_
 refine jS (done hI ?_)
 rw [(jc _ xs () 0).1,ip]
theorem Bg (s:ByteArray) (hs:s.size<=maxLen) (S:ae):Pure Tryz.prog IA [.string s] S (.bool (lH s)):=by
 intro w hI
 refine sO.2 ?_
 dsimp only[sO,aM]
 refine Run.callPure ui s4 hI (rS s hs S) fun w' hI=>?_
 refine Mi (fun h=>done hI ?_) (fun h=>?_)
 ·rw [lH,h]; rfl
 ·refine Run.call0 M5 M4 hI (JG S) fun v' I' S' w'=>?_
  rintro ⟨rfl,_,hr⟩ hle hI
  refine Run.callPure gW gZ hI (gH s hr) fun w' hI=>?_
  refine C9 h (fT hI hle ?_)
  rw [lH,h]; rfl

abbrev fU (b:Nat) (c:Int):Item:=.blk b (.cells #[.int .i64 c] bV)
abbrev pH (bc:Nat) (S:ae) (r:Bool × Int):Value->List Item->ae->Prop:=fun v I' S'=>v=.bool r.1/\I'=[fU bc r.2]/\S'=S
theorem NW:∀ (t:T) (deep c:Int),c<=120->(fY t deep c).1=true->c<(fY t deep c).2/\(fY t deep c).2<=120:=by
 intro t deep c hc h
 have:=Hz t deep c
 rw [this.2 h]
 have h1:=this.1
 rw [h] at h1
 have h2:=h1.symm
 simp at h2
 have:=AC t
 omega
theorem KI (deep:Int):∀ (ks:List T) (c:Int),lX (fun c t=>(!(fY t deep c).1,(fY t deep c).2)) c ks=(!(mH ks deep c).1,(mH ks deep c).2)
 | [],c=>by simp [lX,mH]
 | t::ts,c=>by
  by_cases h:(fY t deep c).1=true
  ·simp [lX,mH,h,KI deep ts]
  ·simp [lX,mH,h]

theorem RN:∀ (t:T) (S:ae) (cs:List Value) (deep c:Int) (bc:Nat),RdT S cs t->0<=deep->deep<=31->0<=c->c<=120->
  Tri Tryz.prog X4 [.agg cs.toArray,.int .i64 deep,.pointer (some ⟨bc,0,none⟩)] [fU bc c] S (pH bc S (fY t deep c)):=by
 refine T.ind fun k n s ks ih S cs deep c bc h hd0 hd1 hc0 hc1=>?_
 intro w hI
 obtain ⟨kv,rfl,_,_,hs,hks⟩:=RdT.iff.1 h
 simp only [T.name,T.kids,T.kind,T.n] at hs hks ⊢
 have hend:∀ {L:List Item} {w':World} {v:Value} (r:Bool × Int),Inv w (bE [fU bc c]) (fU bc r.2::L) S w'->v=.bool r.1->r=fY (.mk k n s ks) deep c->
   ∃ v' I' S',Ending.returned v=.returned v'/\Inv w (bE [fU bc c]) I' S' w'/\Ext w.heap.size (bE [fU bc c]) S S'/\pH bc S (fY (.mk k n s ks) deep c) v' I' S':=by
  intro L w' v r h1 h2 h3
  subst h3
  exact ⟨_,_,_,rfl,h1.pick [true],Ext.refl _ _ _,h2,rfl,rfl⟩
 refine KZ.2 ?_
 dsimp only[KZ,dN]
 refine bq hI fun b3 w' hI=>?_
 refine bq hI fun b4 w' hI=>?_
 refine bq hI fun b5 w' hI=>?_
 refine aN hI 3 uS rfl rfl ?_
 refine aB ?_
 refine aN hI 0 aG rfl rfl ?_
 refine bp (by omega) ?_
 refine aB ?_
 refine cW hI 0 (n:=1) rfl (by rw [aG]; rfl) rfl (jw rfl) (by simp [Value.cells]; rfl) fun w' hI=>?_
 refine ⟨fun t w'=>t=.bool (decide (120<c+1 ∨ 30<deep))/\Inv w (bE [fU bc c]) [fU bc (c+1),.blk b3 (.cells #[.int .i64 k,.int .i64 n,.string s,kv] ab),.blk b4 (.cells #[.int .i64 deep] bV),.blk b5 (.cells #[.pointer (some ⟨bc,0,none⟩)] iB)] S w',?_,?_⟩
 ·refine aN hI 3 uS rfl rfl ?_
  refine aB ?_
  refine aN hI 0 aG rfl rfl ?_
  refine dA ?_
  refine Mi (fun h=>⟨?_,hI⟩) (fun h=>?_)
  ·have h:=of_decide_eq_true h
   rw [aI (show 120<c+1 ∨ 30<deep from .inl h)]
  ·refine aN hI 2 aG rfl rfl ?_
   refine dA ?_
   refine C9 h ⟨?_,hI⟩
   have h:=of_decide_eq_false h
   congr 1
   rw [mf]
   simp
   omega
 intro t _ _ _ _ _ _ _ w'
 rintro ⟨rfl,hI⟩
 refine aL (fun hb=>?_) (fun hb=>?_)
 ·exact hend (false,c+1) hI rfl (by rw [fY,ai hb])
 have hsc:∀ r,(if k=1 ∨ k=2 then (ed (.mk k n s ks),c+1) else if k=3 then (if ed (.mk k n s ks) then mH ks (deep+1) (c+1) else (false,c+1)) else (false,c+1))=r->r=fY (.mk k n s ks) deep c:=by
  intro r hr
  rw [fY,ah hb,hr]
 refine af hI 1 rfl aR aG rfl ?_
 refine bl ?_
 refine aL (fun hk=>?_) (fun hk=>?_)
 ·have ho:ed (.mk k n s ks)=(decide (0<=n) && (decide (n<=25) && (decide (s=emptyB) && decide (ks.length=0)))):=by
   rw [ed]; exact ai hk
  have hfin:∀ {w':World} {b:Bool},Inv w (bE [fU bc c]) [fU bc (c+1),.blk b3 (.cells #[.int .i64 k,.int .i64 n,.string s,kv] ab),.blk b4 (.cells #[.int .i64 deep] bV),.blk b5 (.cells #[.pointer (some ⟨bc,0,none⟩)] iB)] S w'->
    b=ed (.mk k n s ks)->∃ v' I' S',Ending.returned (.bool b)=.returned v'/\Inv w (bE [fU bc c]) I' S' w'/\Ext w.heap.size (bE [fU bc c]) S S'/\pH bc S (fY (.mk k n s ks) deep c) v' I' S':=
   fun hI hb=>hend (_,c+1) hI (by rw [hb]) (hsc _ (ai (.inl hk)))
  refine af hI 1 rfl bf aG rfl ?_
  refine Run.callPure fu fD hI (eR _ _ _ S) fun w' hI=>?_
  refine kT (fun h2=>?_) (fun h2=>?_)
  ·have h2':=h2
   rw [bu] at h2'
   refine af hI 1 rfl bb aU rfl ?_
   refine bS ?_
   refine iy h2 ?_
   refine kT (fun h3=>?_) (fun h3=>hfin hI ?_)
   ·refine af hI 1 rfl ao aj rfl ?_
    refine aF hks ag ?_
    refine bl ?_
    refine iy h3 (hfin hI ?_)
    rw [ho,h2'.1,h2'.2,show decide (s=emptyB)=true from h3]
    simp
   ·rw [ho,h2'.1,h2'.2,show decide (s=emptyB)=false from h3]; rfl
  ·refine qZ (hfin hI ?_)
   rw [ho,<- Ec,h2]; rfl
 refine bl ?_
 refine aL (fun hk2=>?_) (fun hk2=>?_)
 ·have ho:ed (.mk k n s ks)=(decide (-999<=n) && (decide (n<=999) && (decide (s=emptyB) && decide (ks.length=0)))):=by
   rw [ed]; exact (ah hk).trans (ai hk2)
  have hfin:∀ {w':World} {b:Bool},Inv w (bE [fU bc c]) [fU bc (c+1),.blk b3 (.cells #[.int .i64 k,.int .i64 n,.string s,kv] ab),.blk b4 (.cells #[.int .i64 deep] bV),.blk b5 (.cells #[.pointer (some ⟨bc,0,none⟩)] iB)] S w'->
    b=ed (.mk k n s ks)->∃ v' I' S',Ending.returned (.bool b)=.returned v'/\Inv w (bE [fU bc c]) I' S' w'/\Ext w.heap.size (bE [fU bc c]) S S'/\pH bc S (fY (.mk k n s ks) deep c) v' I' S':=
   fun hI hb=>hend (_,c+1) hI (by rw [hb]) (hsc _ (ai (.inr hk2)))
  refine af hI 1 rfl bf aG rfl ?_
  refine Run.callPure fu fD hI (eR _ _ _ S) fun w' hI=>?_
  refine kT (fun h2=>?_) (fun h2=>?_)
  ·have h2':=h2
   rw [bu] at h2'
   refine af hI 1 rfl bb aU rfl ?_
   refine bS ?_
   refine iy h2 ?_
   refine kT (fun h3=>?_) (fun h3=>hfin hI ?_)
   ·refine af hI 1 rfl ao aj rfl ?_
    refine aF hks ag ?_
    refine bl ?_
    refine iy h3 (hfin hI ?_)
    rw [ho,h2'.1,h2'.2,show decide (s=emptyB)=true from h3]
    simp
   ·rw [ho,h2'.1,h2'.2,show decide (s=emptyB)=false from h3]; rfl
  ·refine qZ (hfin hI ?_)
   rw [ho,<- Ec,h2]; rfl
 refine bl ?_
 have hk12:¬ (k=1 ∨ k=2):=fun h=>h.elim hk hk2
 refine aL (fun hk3=>?_) (fun hk3=>?_)
 ·have ho:ed (.mk k n s ks)=(decide (n=0) && (lH s && decide (ks.length<=4))):=by
   rw [ed]; exact (ah hk).trans ((ah hk2).trans (ai hk3))
  refine ⟨fun t w'=>t=.bool (!ed (.mk k n s ks))/\Inv w (bE [fU bc c]) [fU bc (c+1),.blk b3 (.cells #[.int .i64 k,.int .i64 n,.string s,kv] ab),.blk b4 (.cells #[.int .i64 deep] bV),.blk b5 (.cells #[.pointer (some ⟨bc,0,none⟩)] iB)] S w',?_,?_⟩
  ·refine af hI 1 rfl bf aG rfl ?_
   refine ef ?_
   refine Mi (fun h1=>?_) (fun h1=>?_)
   ·have h1':decide (n=0)=false:=by simpa using h1
    refine abP ⟨?_,hI⟩
    rw [ho,h1']; rfl
   ·have h1':decide (n=0)=true:=by simpa using h1
    refine af hI 1 rfl bb aU rfl ?_
    refine Run.callPure Hk HO hI (Bg s hs S) fun w' hI=>?_
    refine bQ ?_
    refine C9 h1 ?_
    refine Mi (fun h2=>⟨?_,hI⟩) (fun h2=>?_)
    ·have h2':lH s=false:=by simpa using h2
     rw [ho,h1',h2']; rfl
    ·have h2':lH s=true:=by simpa using h2
     refine af hI 1 rfl ao aj rfl ?_
     refine aF hks ag ?_
     refine dA ?_
     refine C9 h2 ⟨?_,hI⟩
     rw [ho,h1',h2',dg,dg]
     congr 1
     rw [mf]
     simp
     omega
  intro t _ _ _ _ _ _ _ _ _ _ _ _ _ _ w'
  rintro ⟨rfl,hI⟩
  refine aw (fun hb1=>?_) (fun hb1=>?_)
  ·have hb1':ed (.mk k n s ks)=false:=by simpa using hb1
   exact hend (false,c+1) hI rfl (hsc _ (by rw [ah hk12,ai hk3,hb1']; rfl))
  ·have hb1':ed (.mk k n s ks)=true:=by simpa using hb1
   refine af hI 1 rfl ao aj rfl ?_
   refine ia ?_
   have hcb:Cb Tryz.prog QI Tryz.f204 [.pointer (some ⟨b4,0,none⟩),.pointer (some ⟨b5,0,none⟩)] S
     (fun c:Int=>[fU bc c,.blk b4 (.cells #[.int .i64 deep] bV),.blk b5 (.cells #[.pointer (some ⟨bc,0,none⟩)] iB)]) (fun c=>0<=c/\c<=120)
     (fun c t=>(!(fY t (deep+1) c).1,(fY t (deep+1) c).2)) (fun v x=>∃ cs,v=.agg cs.toArray/\RdT S cs x) ks:=by
    refine ⟨PG,OY,fun st x _ hst hf=>?_,fun st x v hx hst=>?_⟩
    ·have:=NW x (deep+1) st hst.2 (by simpa using hf)
     omega
    ·rintro ⟨cs,rfl,hcs⟩ w1 hI
     have hl:=hcs.length
     refine Dl.2 ?_
     dsimp only[Dl,dN]
     refine bq hI fun b w' hI=>?_
     refine av hI 3 ad rfl (by simpa [Value.cells] using hl) ?_
     refine aN hI 1 aG rfl rfl ?_
     refine bp (by omega) ?_
     refine aN hI 2 uS rfl rfl ?_
     have hI:=hI.perm (M:=[.blk b4 (.cells #[.int .i64 deep] bV),.blk b5 (.cells #[.pointer (some ⟨bc,0,none⟩)] iB),.blk b (.cells (Value.agg cs.toArray).cells ab)]++[fU bc st])
      (cu (l₁:=[_,_,_]) (l₂:=[fU bc st]))
     refine Run.call KB KA hI (ih x hx S cs (deep+1) st bc hcs (by omega) (by omega) hst.1 hst.2) fun v' I' S' w'=>?_
     rintro ⟨rfl,rfl,rfl⟩ _ hI
     refine bQ ?_
     have hI:=(hI.perm (M:=[fU bc (fY x (deep+1) st).2]++[.blk b4 (.cells #[.int .i64 deep] bV),.blk b5 (.cells #[.pointer (some ⟨bc,0,none⟩)] iB),.blk b (.cells (Value.agg cs.toArray).cells ab)])
      cu).pick [true,true,true,false]
     exact ⟨_,_,_,rfl,hI,Ext.refl _ _ _,rfl,rfl,rfl⟩
   have hI:=hI.perm (M:=[.blk b3 (.cells #[.int .i64 k,.int .i64 n,.string s,kv] ab)]++[fU bc (c+1),.blk b4 (.cells #[.int .i64 deep] bV),.blk b5 (.cells #[.pointer (some ⟨bc,0,none⟩)] iB)]) (List.Perm.swap _ _ _)
   refine Run.call d5 d4 hI (ft hcb hks ⟨by omega,by omega⟩) fun v' I' S' w'=>?_
   rintro ⟨rfl,rfl,rfl⟩ _ hI
   refine bQ ?_
   rw [KI] at hI ⊢
   have hI:=hI.perm (M:=[fU bc (mH ks (deep+1) (c+1)).2,.blk b3 (.cells #[.int .i64 k,.int .i64 n,.string s,kv] ab),.blk b4 (.cells #[.int .i64 deep] bV),.blk b5 (.cells #[.pointer (some ⟨bc,0,none⟩)] iB)]) (List.Perm.swap _ _ _)
   refine hend (mH ks (deep+1) (c+1)) hI (by simp) (hsc _ (by rw [ah hk12,ai hk3,hb1']; rfl))
 ·exact hend (false,c+1) hI rfl (hsc _ (by rw [ah hk12,ah hk3]))

theorem jZ {t:T} {S:ae} {cs:List Value} (h:RdT S cs t):Pure Tryz.prog Je [.agg cs.toArray] S (.bool (dt t)):=by
 intro w hI
 have hl:=h.length
 refine tG.2 ?_
 dsimp only[tG,aM]
 refine bq hI fun b1 w' hI=>?_
 refine aT hI Ri fun b2 w' hI=>?_
 refine cW hI 1 (n:=1) rfl (by rw [aG]; rfl) rfl (jw rfl) (by simp [Value.cells]; rfl) fun w' hI=>?_
 refine av hI 0 ad rfl (by simpa [Value.cells] using hl) ?_
 refine Run.call (A:=[_]) (I:=[fU b2 0]) KB KA hI (RN t S cs 1 0 b2 h (by omega) (by omega) (by omega) (by omega)) fun v' I' S' w'=>?_
 rintro ⟨rfl,rfl,rfl⟩ _ hI
 exact done hI (by rw [QW])
end
section
open Go Go.RowKit
attribute [local irreducible] Run CondV az aO

def sn:List ByteArray:=[⟨#[61]⟩,⟨#[92,61]⟩,⟨#[61,61]⟩,⟨#[60]⟩,⟨#[62]⟩,⟨#[61,60]⟩,⟨#[62,61]⟩,⟨#[61,58,61]⟩,⟨#[105,115]⟩]
def qu:List ByteArray:=[⟨#[116,114,117,101]⟩,⟨#[102,97,105,108]⟩]
def wy:List ByteArray:=[⟨#[118,97,114]⟩,⟨#[110,111,110,118,97,114]⟩,⟨#[97,116,111,109]⟩,⟨#[105,110,116]⟩]
def yO:List ByteArray:=[⟨#[43]⟩,⟨#[45]⟩]
def oD:List ByteArray:=[⟨#[42]⟩,⟨#[47,47]⟩,⟨#[109,111,100]⟩]
def df (s:ByteArray) (l:List ByteArray):Bool:=l.any fun x=>decide (s=x)
def fk (s:ByteArray) (n:Int):Bool:=
 if df s sn=true then decide (n=2)
 else if df s qu=true then decide (n=0)
 else if df s wy=true then decide (n=1)
 else if s=⟨#[97,114,103]⟩ then decide (n=3)
 else false
def cJ (s:ByteArray):Int:=if df s sn=true then 3 else if df s yO=true then 2 else if df s oD=true then 1 else 0
def fS (t:T):Bool:=decide (t.kind=3) && (decide (t.name=⟨#[33]⟩) && decide (t.kids.length=0))
def W2 (t:T):Bool:=decide (t.kind=3) && decide (t.kids.length=0)
def cI (t:T):Bool:=decide (t.kind=3) && fk t.name t.kids.length
def cD (t:T):Bool:=decide (t.kind=3) && (m8 t.name && (!fk t.name t.kids.length && decide (cJ t.name=0)))
def eq (t:T):Bool:=dt t && (fS t || (cD t || cI t))
def bK (c:C):Bool:=decide (c.body.length<=6) && (c.body.all eq && (dt c.head && cD c.head))
def eN (l:List T):Bool:=decide (l.length<=6) && l.all eq
def de (p:List C):Bool:=decide (p.length<=20) && p.all bK
theorem VF (s:ByteArray):(!decide (0<cJ s))=decide (cJ s=0):=by
 unfold cJ
 split
 ·rfl
 ·split
  ·rfl
  ·split <;> rfl

theorem pN (s:ByteArray) (n:Int) (S:ae):Pure Tryz.prog Jc [.string s,.int .i64 n] S (.bool (fk s n)):=by
 intro w hI
 refine sz.2 ?_
 dsimp only[sz,aY]
 obtain ⟨q,hq⟩:∃ q,df s sn=q:=⟨_,rfl⟩
 have hq1:=hq
 refine ⟨fun t w'=>t=.bool q/\Inv w [] [] S w',?_,?_⟩
 ·unfold df sn at hq
  iterate 8
   refine bS ?_
   refine aw (fun h=>⟨by rw [fR,h] at hq; rw [h,<- hq]; rfl,hI⟩) (fun h=>?_)
   rw [fR,h,fV] at hq
  refine bS ⟨?_,hI⟩
  rw [<- hq]; simp
 intro t _ _ _ _ _ _ _ _ _ w'
 rintro ⟨rfl,hI⟩
 refine aw (fun h=>?_) (fun h=>?_)
 ·exact bl (done hI (by rw [fk,ai (hq1.trans h)]))
 have e1:fk s n=if df s qu=true then decide (n=0) else if df s wy=true then decide (n=1) else if s=⟨#[97,114,103]⟩ then decide (n=3) else false:=by
  rw [fk,ah (by rw [hq1,h]; decide)]
 clear hq hq1 h
 obtain ⟨q,hq⟩:∃ q,df s qu=q:=⟨_,rfl⟩
 have hq1:=hq
 refine ⟨fun t w'=>t=.bool q/\Inv w [] [] S w',?_,?_⟩
 ·unfold df qu at hq
  refine bS ?_
  refine aw (fun h=>⟨by rw [fR,h] at hq; rw [h,<- hq]; rfl,hI⟩) (fun h=>?_)
  rw [fR,h,fV] at hq
  refine bS ⟨?_,hI⟩
  rw [<- hq]; simp
 intro _ t _ w'
 rintro ⟨rfl,hI⟩
 refine aw (fun h=>?_) (fun h=>?_)
 ·exact bl (done hI (by rw [e1,ai (hq1.trans h)]))
 rw [ah (by rw [hq1,h]; decide)] at e1
 clear hq hq1 h
 obtain ⟨q,hq⟩:∃ q,df s wy=q:=⟨_,rfl⟩
 have hq1:=hq
 refine ⟨fun t w'=>t=.bool q/\Inv w [] [] S w',?_,?_⟩
 ·unfold df wy at hq
  iterate 3
   refine bS ?_
   refine aw (fun h=>⟨by rw [fR,h] at hq; rw [h,<- hq]; rfl,hI⟩) (fun h=>?_)
   rw [fR,h,fV] at hq
  refine bS ⟨?_,hI⟩
  rw [<- hq]; simp
 intro _ _ _ t _ w'
 rintro ⟨rfl,hI⟩
 refine aw (fun h=>?_) (fun h=>?_)
 ·exact bl (done hI (by rw [e1,ai (hq1.trans h)]))
 rw [ah (by rw [hq1,h]; decide)] at e1
 refine bS ?_
 refine aL (fun h=>?_) (fun h=>?_)
 ·exact bl (done hI (by rw [e1,ai h]))
 ·exact done hI (by rw [e1,ah h])
theorem Bf (s:ByteArray) (n:Int) (S:ae):Pure Tryz.prog IY [.string s,.int .i64 n] S (.bool (fk s n)):=by
 intro w hI
 refine tC.2 ?_
 dsimp only[tC,aY]
 obtain ⟨q,hq⟩:∃ q,df s sn=q:=⟨_,rfl⟩
 have hq1:=hq
 refine ⟨fun t w'=>t=.bool q/\Inv w [] [] S w',?_,?_⟩
 ·unfold df sn at hq
  iterate 8
   refine bS ?_
   refine aw (fun h=>⟨by rw [fR,h] at hq; rw [h,<- hq]; rfl,hI⟩) (fun h=>?_)
   rw [fR,h,fV] at hq
  refine bS ⟨?_,hI⟩
  rw [<- hq]; simp
 intro t _ _ _ _ _ _ _ _ _ w'
 rintro ⟨rfl,hI⟩
 refine aw (fun h=>?_) (fun h=>?_)
 ·exact bl (done hI (by rw [fk,ai (hq1.trans h)]))
 have e1:fk s n=if df s qu=true then decide (n=0) else if df s wy=true then decide (n=1) else if s=⟨#[97,114,103]⟩ then decide (n=3) else false:=by
  rw [fk,ah (by rw [hq1,h]; decide)]
 clear hq hq1 h
 obtain ⟨q,hq⟩:∃ q,df s qu=q:=⟨_,rfl⟩
 have hq1:=hq
 refine ⟨fun t w'=>t=.bool q/\Inv w [] [] S w',?_,?_⟩
 ·unfold df qu at hq
  refine bS ?_
  refine aw (fun h=>⟨by rw [fR,h] at hq; rw [h,<- hq]; rfl,hI⟩) (fun h=>?_)
  rw [fR,h,fV] at hq
  refine bS ⟨?_,hI⟩
  rw [<- hq]; simp
 intro _ t _ w'
 rintro ⟨rfl,hI⟩
 refine aw (fun h=>?_) (fun h=>?_)
 ·exact bl (done hI (by rw [e1,ai (hq1.trans h)]))
 rw [ah (by rw [hq1,h]; decide)] at e1
 clear hq hq1 h
 obtain ⟨q,hq⟩:∃ q,df s wy=q:=⟨_,rfl⟩
 have hq1:=hq
 refine ⟨fun t w'=>t=.bool q/\Inv w [] [] S w',?_,?_⟩
 ·unfold df wy at hq
  iterate 3
   refine bS ?_
   refine aw (fun h=>⟨by rw [fR,h] at hq; rw [h,<- hq]; rfl,hI⟩) (fun h=>?_)
   rw [fR,h,fV] at hq
  refine bS ⟨?_,hI⟩
  rw [<- hq]; simp
 intro _ _ _ t _ w'
 rintro ⟨rfl,hI⟩
 refine aw (fun h=>?_) (fun h=>?_)
 ·exact bl (done hI (by rw [e1,ai (hq1.trans h)]))
 rw [ah (by rw [hq1,h]; decide)] at e1
 refine bS ?_
 refine aL (fun h=>?_) (fun h=>?_)
 ·exact bl (done hI (by rw [e1,ai h]))
 ·exact done hI (by rw [e1,ah h])

theorem eJ (s:ByteArray) (S:ae):Pure Tryz.prog PQ [.string s] S (.int .i64 (cJ s)):=by
 intro w hI
 refine zt.2 ?_
 dsimp only[zt,aM]
 obtain ⟨q,hq⟩:∃ q,df s sn=q:=⟨_,rfl⟩
 have hq1:=hq
 refine ⟨fun t w'=>t=.bool q/\Inv w [] [] S w',?_,?_⟩
 ·unfold df sn at hq
  iterate 8
   refine bS ?_
   refine aw (fun h=>⟨by rw [fR,h] at hq; rw [h,<- hq]; rfl,hI⟩) (fun h=>?_)
   rw [fR,h,fV] at hq
  refine bS ⟨?_,hI⟩
  rw [<- hq]; simp
 intro _ _ _ _ _ _ _ _ t _ w'
 rintro ⟨rfl,hI⟩
 refine aw (fun h=>?_) (fun h=>?_)
 ·exact done hI (by rw [show cJ s=3 from ai (hq1.trans h)] <;> rfl)
 have e1:cJ s=if df s yO=true then 2 else if df s oD=true then 1 else 0:=by
  rw [cJ,ah (by rw [hq1,h]; decide)]
 clear hq hq1 h
 obtain ⟨q,hq⟩:∃ q,df s yO=q:=⟨_,rfl⟩
 have hq1:=hq
 refine ⟨fun t w'=>t=.bool q/\Inv w [] [] S w',?_,?_⟩
 ·unfold df yO at hq
  refine bS ?_
  refine aw (fun h=>⟨by rw [fR,h] at hq; rw [h,<- hq]; rfl,hI⟩) (fun h=>?_)
  rw [fR,h,fV] at hq
  refine bS ⟨?_,hI⟩
  rw [<- hq]; simp
 intro _ t _ w'
 rintro ⟨rfl,hI⟩
 refine aw (fun h=>?_) (fun h=>?_)
 ·exact done hI (by rw [show cJ s=2 from e1.trans (ai (hq1.trans h))] <;> rfl)
 rw [ah (by rw [hq1,h]; decide)] at e1
 clear hq hq1 h
 obtain ⟨q,hq⟩:∃ q,df s oD=q:=⟨_,rfl⟩
 have hq1:=hq
 refine ⟨fun t w'=>t=.bool q/\Inv w [] [] S w',?_,?_⟩
 ·unfold df oD at hq
  iterate 2
   refine bS ?_
   refine aw (fun h=>⟨by rw [fR,h] at hq; rw [h,<- hq]; rfl,hI⟩) (fun h=>?_)
   rw [fR,h,fV] at hq
  refine bS ⟨?_,hI⟩
  rw [<- hq]; simp
 intro _ _ t _ w'
 rintro ⟨rfl,hI⟩
 refine aw (fun h=>?_) (fun h=>?_)
 ·exact done hI (by rw [show cJ s=1 from e1.trans (ai (hq1.trans h))] <;> rfl)
 ·exact done hI (by rw [show cJ s=0 from e1.trans (ah (by rw [hq1,h]; decide))] <;> rfl)
theorem EN (s:ByteArray) (S:ae):Pure Tryz.prog Pg [.string s] S (.tuple #[.int .i64 (cJ s),.bool (decide (cJ s=1) || decide (cJ s=2))]):=by
 intro w hI
 refine z9.2 ?_
 dsimp only[z9,aM]
 obtain ⟨q,hq⟩:∃ q,df s sn=q:=⟨_,rfl⟩
 have hq1:=hq
 refine ⟨fun t w'=>t=.bool q/\Inv w [] [] S w',?_,?_⟩
 ·unfold df sn at hq
  iterate 8
   refine bS ?_
   refine aw (fun h=>⟨by rw [fR,h] at hq; rw [h,<- hq]; rfl,hI⟩) (fun h=>?_)
   rw [fR,h,fV] at hq
  refine bS ⟨?_,hI⟩
  rw [<- hq]; simp
 intro _ _ _ _ _ _ _ _ t _ w'
 rintro ⟨rfl,hI⟩
 refine aw (fun h=>?_) (fun h=>?_)
 ·exact done hI (by rw [show cJ s=3 from ai (hq1.trans h)] <;> rfl)
 have e1:cJ s=if df s yO=true then 2 else if df s oD=true then 1 else 0:=by
  rw [cJ,ah (by rw [hq1,h]; decide)]
 clear hq hq1 h
 obtain ⟨q,hq⟩:∃ q,df s yO=q:=⟨_,rfl⟩
 have hq1:=hq
 refine ⟨fun t w'=>t=.bool q/\Inv w [] [] S w',?_,?_⟩
 ·unfold df yO at hq
  refine bS ?_
  refine aw (fun h=>⟨by rw [fR,h] at hq; rw [h,<- hq]; rfl,hI⟩) (fun h=>?_)
  rw [fR,h,fV] at hq
  refine bS ⟨?_,hI⟩
  rw [<- hq]; simp
 intro _ t _ w'
 rintro ⟨rfl,hI⟩
 refine aw (fun h=>?_) (fun h=>?_)
 ·exact done hI (by rw [show cJ s=2 from e1.trans (ai (hq1.trans h))] <;> rfl)
 rw [ah (by rw [hq1,h]; decide)] at e1
 clear hq hq1 h
 obtain ⟨q,hq⟩:∃ q,df s oD=q:=⟨_,rfl⟩
 have hq1:=hq
 refine ⟨fun t w'=>t=.bool q/\Inv w [] [] S w',?_,?_⟩
 ·unfold df oD at hq
  iterate 2
   refine bS ?_
   refine aw (fun h=>⟨by rw [fR,h] at hq; rw [h,<- hq]; rfl,hI⟩) (fun h=>?_)
   rw [fR,h,fV] at hq
  refine bS ⟨?_,hI⟩
  rw [<- hq]; simp
 intro _ _ t _ w'
 rintro ⟨rfl,hI⟩
 refine aw (fun h=>?_) (fun h=>?_)
 ·exact done hI (by rw [show cJ s=1 from e1.trans (ai (hq1.trans h))] <;> rfl)
 ·exact done hI (by rw [show cJ s=0 from e1.trans (ah (by rw [hq1,h]; decide))] <;> rfl)

theorem O4 {t:T} {S:ae} {cs:List Value} (h:RdT S cs t):Pure Tryz.prog UR [.agg cs.toArray] S (.bool (fS t)):=by
 intro w hI
 obtain ⟨kv,rfl,_,_,hs,hks⟩:=RdT.iff.1 h
 obtain ⟨k,n,s,ks⟩:=t
 simp only [T.name,T.kids,T.kind,T.n] at hs hks ⊢
 refine HH.2 ?_
 dsimp only[HH,aM]
 refine bq hI fun b1 w' hI=>?_
 refine af hI 0 rfl aR aG rfl ?_
 refine bl ?_
 rw [show fS (.mk k n s ks)=(decide (k=3) && (decide (s=⟨#[33]⟩) && decide (ks.length=0))) from rfl]
 cases h1:decide (k=3)
 ·refine rpG ?_
  exact done hI rfl
 ·refine rpG ?_
  refine af hI 0 rfl bb aU rfl ?_
  refine bS ?_
  cases h2:decide (s=⟨#[33]⟩)
  ·refine rpG ?_
   exact done hI rfl
  ·refine rpG ?_
   refine af hI 0 rfl ao aj rfl ?_
   refine aF hks ag ?_
   refine bl ?_
   refine rpG ?_
   exact done hI (by simp)

theorem oY {t:T} {S:ae} {cs:List Value} (h:RdT S cs t):Pure Tryz.prog Qc [.agg cs.toArray] S (.bool (cD t)):=by
 intro w hI
 obtain ⟨kv,rfl,_,_,hs,hks⟩:=RdT.iff.1 h
 obtain ⟨k,n,s,ks⟩:=t
 simp only [T.name,T.kids,T.kind,T.n] at hs hks ⊢
 refine yg.2 ?_
 dsimp only[yg,aM]
 refine bq hI fun b1 w' hI=>?_
 refine af hI 0 rfl aR aG rfl ?_
 refine bl ?_
 rw [show cD (.mk k n s ks)=(decide (k=3) && (m8 s && (!fk s ks.length && decide (cJ s=0)))) from rfl]
 cases h1:decide (k=3)
 ·refine rpG ?_
  exact done hI rfl
 ·refine rpG ?_
  refine af hI 0 rfl bb aU rfl ?_
  refine Run.callPure Dd CG hI (yp s hs S) fun w' hI=>?_
  cases h2:m8 s
  ·refine rpG ?_
   exact done hI rfl
  ·refine rpG ?_
   refine af hI 0 rfl bb aU rfl ?_
   refine af hI 0 rfl ao aj rfl ?_
   refine aF hks ag ?_
   refine Run.callPure sx tw hI (pN s _ S) fun w' hI=>?_
   refine bQ ?_
   cases h3:fk s ks.length
   ·refine rpG ?_
    refine af hI 0 rfl bb aU rfl ?_
    refine Run.callPure gg gf hI (eJ s S) fun w' hI=>?_
    refine bl ?_
    refine rpG ?_
    exact done hI rfl
   ·refine rpG ?_
    exact done hI rfl

theorem MW {t:T} {S:ae} {cs:List Value} (h:RdT S cs t):Pure Tryz.prog Q6 [.agg cs.toArray] S (.bool (fS t || (cD t || cI t))):=by
 intro w hI
 have h0:=h
 obtain ⟨kv,rfl,_,_,hs,hks⟩:=RdT.iff.1 h
 obtain ⟨k,n,s,ks⟩:=t
 simp only [T.name,T.kids,T.kind,T.n] at h0 hs hks ⊢
 refine DF.2 ?_
 dsimp only[DF,aM]
 refine bq hI fun b1 w' hI=>?_
 refine av hI 0 ad rfl rfl ?_
 refine Run.callPure QT RU hI (O4 h0) fun w' hI=>?_
 cases h1:fS (.mk k n s ks)
 ·refine rpG ?_
  refine av hI 0 ad rfl rfl ?_
  refine Run.callPure qP re hI (oY h0) fun w' hI=>?_
  cases h2:cD (.mk k n s ks)
  ·refine rpG ?_
   refine af hI 0 rfl aR aG rfl ?_
   refine bl ?_
   rw [show cI (.mk k n s ks)=(decide (k=3) && fk s ks.length) from rfl]
   cases h3:decide (k=3)
   ·refine rpG ?_
    exact done hI rfl
   ·refine rpG ?_
    refine af hI 0 rfl bb aU rfl ?_
    refine af hI 0 rfl ao aj rfl ?_
    refine aF hks ag ?_
    refine Run.callPure sx tw hI (pN s _ S) fun w' hI=>?_
    refine rpG ?_
    exact done hI rfl
  ·refine rpG ?_
   exact done hI rfl
 ·refine rpG ?_
  exact done hI rfl

theorem Ty {t:T} (h:wT t<=1048576):ew t<=4611686018427387904:=by
 have:=L4 t
 omega
theorem CA {t:T} {S:ae} {cs:List Value} (h:RdT S cs t) (hc:wT t<=1048576):Pure Tryz.prog IV [.agg cs.toArray] S (.bool (eq t)):=by
 intro w hI
 have hl:=h.length
 refine sR.2 ?_
 dsimp only[sR,aM]
 refine bq hI fun b1 w' hI=>?_
 refine av hI 0 ad rfl (by simpa [Value.cells] using hl) ?_
 refine Run.callPure sP ug hI (pR h (Ty hc)) fun w' hI=>?_
 rw [eq]
 cases h1:dt t
 ·refine rpG ?_
  exact done hI rfl
 ·refine rpG ?_
  refine av hI 0 ad rfl (by simpa [Value.cells] using hl) ?_
  refine Run.callPure PE NU hI (MW h) fun w' hI=>?_
  refine rpG ?_
  exact done hI rfl


theorem TP {ts:List T} {t:T} (h:t∈ts):wT t<=wL ts:=by
 induction ts with
 | nil=>simp at h
 | cons u us ih=>
  rw [wL]
  rcases bN.1 h with rfl|h
  ·omega
  ·have:=ih h; omega
theorem mv {c:C} {S:ae} {cs:List Value} (h:RdC S cs c) (hc:wC c<=1048576):Pure Tryz.prog Er [.agg cs.toArray] S (.bool (bK c)):=by
 intro w hI
 obtain ⟨hd,ks,rfl,h1,h2⟩:=h
 have h1':=h1
 obtain ⟨kv,rfl,g1,g2,g3,g4⟩:=RdT.iff.1 h1
 have hlen:=h2.le
 simp only [maxLen] at hlen
 unfold wC at hc
 refine pz.2 ?_
 dsimp only[pz,aM]
 refine bq hI fun b1 w' hI=>?_
 refine ⟨fun i w'=>∃ k:Nat,k<=c.body.length/\k<=7/\i=.int .i64 k/\(∀ j (h:j<c.body.length),j<k->eq c.body[j]=true)/\Inv w [] [.blk b1 (.cells #[.int .i64 c.head.kind,.int .i64 c.head.n,.string c.head.name,kv,ks] aq)] S w',
  fun i _=>c.body.length - (intOf i).toNat,⟨0,be _,by omega,rfl,fun j _ h=>by omega,hI⟩,?_⟩
 intro t3 _ _ _ _ _ _ _ _ _ _ _ _ _ _ _ _ _ _ _ w'
 rintro ⟨k,hk,hk7,rfl,hrel,hI⟩
 refine ⟨fun t w'=>t=.bool (decide (k<c.body.length/\k<=6))/\Inv w [] [.blk b1 (.cells #[.int .i64 c.head.kind,.int .i64 c.head.n,.string c.head.name,kv,ks] aq)] S w',?_,?_⟩
 ·refine af hI 0 rfl bj aj rfl ?_
  refine aF h2 ag ?_
  refine bH ?_
  by_cases hki:(k:Int)<c.body.length
  ·rw [aI hki]
   refine rpG ?_
   refine gy ?_
   refine rpG ?_
   refine ⟨?_,hI⟩
   congr 1
   rw [mf]; simp; omega
  ·rw [aP hki]
   refine rpG ?_
   exact ⟨by rw [aP (by omega)],hI⟩
 intro t _ _ _ _ _ _ _ _ w'
 rintro ⟨rfl,hI⟩
 refine aL (fun hki=>?_) (fun hki=>?_)
 ·obtain ⟨hk',hk6⟩:=hki
  refine af hI 0 rfl bj aj rfl ?_
  refine cL hI h2 ag ad hk' (fun _ _=>RdT.length) fun cs' hcs'=>?_
  have hwm:=TP (bz hk')
  refine Run.callPure GP HD hI (CA hcs' (by omega)) fun w' hI=>?_
  refine bQ ?_
  refine aw (fun hb=>done hI ?_) (fun hb=>?_)
  ·have hb':eq c.body[k]=false:=by simpa using hb
   have:c.body.all eq=false:=by
    rw [<- Tq,dE]
    intro hall
    rw [hall _ (bz hk')] at hb'
    cases hb'
   rw [bK,this]
   simp
  ·have hb':eq c.body[k]=true:=by simpa using hb
   refine bp (by omega) ?_
   refine ⟨⟨k+1,hk',by omega,rfl,fun j hj hjk=>?_,hI⟩,by simp [intOf]; omega⟩
   by_cases e:j=k
   ·subst e; exact hb'
   ·exact hrel j hj (by omega)
 ·refine af hI 0 rfl bj aj rfl ?_
  refine aF h2 ag ?_
  refine gy ?_
  rw [bK]
  by_cases hle:c.body.length<=6
  ·have hall:c.body.all eq=true:=by
    rw [dE]
    intro x hx
    obtain ⟨j,hj,rfl⟩:=zo hx
    exact hrel j hj (by omega)
   rw [aI (show (c.body.length:Int)<=6 by omega),aI hle,hall]
   refine rpG ?_
   refine au cE ?_
   refine di hI 0 [.int .i64 c.head.kind,.int .i64 c.head.n,.string c.head.name,kv] ad rfl rfl ?_ ?_
   ·intro j v hj
    match j with
    | 0|1|2|3=>exact hj
    | j+4=>simp at hj
   refine Run.callPure sP ug hI (pR h1' (Ty (by omega))) fun w' hI=>?_
   cases hv:dt c.head
   ·refine rpG ?_
    exact done hI rfl
   ·refine rpG ?_
    refine au cE ?_
    refine di hI 0 [.int .i64 c.head.kind,.int .i64 c.head.n,.string c.head.name,kv] ad rfl rfl ?_ ?_
    ·intro j v hj
     match j with
     | 0|1|2|3=>exact hj
     | j+4=>simp at hj
    refine Run.callPure qP re hI (oY h1') fun w' hI=>?_
    refine rpG ?_
    exact done hI rfl
  ·rw [aP (show ¬ (c.body.length:Int)<=6 by omega),aP hle]
   refine rpG ?_
   exact done hI rfl

theorem kJ {xs:List C} {S:ae} {v:Value} (h:RdSl S 5 (RdC S) v xs) (hc:wP xs<=1048576):Pure Tryz.prog Bp [v] S (.bool (de xs)):=by
 intro w hI
 have hlen:=h.le
 simp only [maxLen] at hlen
 refine oe.2 ?_
 dsimp only[oe,aM]
 refine ⟨fun i w'=>∃ k:Nat,k<=xs.length/\k<=20+1/\i=.int .i64 k/\(∀ j (h:j<xs.length),j<k->bK xs[j]=true)/\Inv w [] [] S w',
  fun i _=>xs.length - (intOf i).toNat,⟨0,be _,by omega,rfl,fun j _ h=>by omega,hI⟩,?_⟩
 intro t3 _ _ _ _ _ _ _ _ _ _ _ _ _ _ _ _ _ w'
 rintro ⟨k,hk,hk7,rfl,hrel,hI⟩
 refine ⟨fun t w'=>t=.bool (decide (k<xs.length/\k<=20))/\Inv w [] [] S w',?_,?_⟩
 ·refine aF h b0 ?_
  refine bH ?_
  by_cases hki:(k:Int)<xs.length
  ·rw [aI hki]
   refine rpG ?_
   refine gy ?_
   refine rpG ?_
   refine ⟨?_,hI⟩
   congr 1
   rw [mf]; simp; omega
  ·rw [aP hki]
   refine rpG ?_
   exact ⟨by rw [aP (by omega)],hI⟩
 intro t _ _ _ _ _ _ _ w'
 rintro ⟨rfl,hI⟩
 refine aL (fun hki=>?_) (fun hki=>?_)
 ·obtain ⟨hk',hk6⟩:=hki
  refine cL hI h b0 bx hk' (fun _ _=>RdC.length) fun cs' hcs'=>?_
  have hwm:=Nm (bz hk')
  refine Run.callPure pY pQ hI (mv hcs' (by omega)) fun w' hI=>?_
  refine bQ ?_
  refine aw (fun hb=>done hI ?_) (fun hb=>?_)
  ·have hb':bK xs[k]=false:=by simpa using hb
   have:xs.all bK=false:=by
    rw [<- Tq,dE]
    intro hall
    rw [hall _ (bz hk')] at hb'
    cases hb'
   rw [de,this,kY]
  ·have hb':bK xs[k]=true:=by simpa using hb
   refine bp (by omega) ?_
   refine ⟨⟨k+1,hk',by omega,rfl,fun j hj hjk=>?_,hI⟩,by simp [intOf]; omega⟩
   by_cases e:j=k
   ·subst e; exact hb'
   ·exact hrel j hj (by omega)
 ·refine aF h b0 ?_
  refine gy ?_
  rw [de]
  refine done hI ?_
  by_cases hle:xs.length<=20
  ·have hall:xs.all bK=true:=by
    rw [dE]
    intro x hx
    obtain ⟨j,hj,rfl⟩:=zo hx
    exact hrel j hj (by omega)
   rw [aI (show (xs.length:Int)<=20 by omega),aI hle,hall]; rfl
  ·rw [aP (show ¬ (xs.length:Int)<=20 by omega),aP hle]; rfl

theorem Rh (s:ByteArray) (S:ae):Pure Tryz.prog WL [.string s] S (.bool (decide (0<cJ s))):=by
 intro w hI
 refine K8.2 ?_
 dsimp only[K8,aM]
 refine Run.callPure MG Md hI (EN s S) fun w' hI=>?_
 refine ar rfl ?_
 refine ar rfl ?_
 refine dA ?_
 exact done hI rfl
theorem iS {t:T} {S:ae} {cs:List Value} (h:RdT S cs t):Pure Tryz.prog OL [.agg cs.toArray] S (.bool (cI t)):=by
 intro w hI
 obtain ⟨kv,rfl,_,_,hs,hks⟩:=RdT.iff.1 h
 obtain ⟨k,n,s,ks⟩:=t
 simp only [T.name,T.kids,T.kind,T.n] at hs hks ⊢
 refine y5.2 ?_
 dsimp only[y5,aM]
 refine bq hI fun b1 w' hI=>?_
 refine af hI 0 rfl aR aG rfl ?_
 refine bl ?_
 rw [show cI (.mk k n s ks)=(decide (k=3) && fk s ks.length) from rfl]
 cases h3:decide (k=3)
 ·refine rpG ?_
  exact done hI rfl
 ·refine rpG ?_
  refine af hI 0 rfl bb aU rfl ?_
  refine af hI 0 rfl ao aj rfl ?_
  refine aF hks ag ?_
  refine Run.callPure Gj HK hI (Bf s _ S) fun w' hI=>?_
  refine rpG ?_
  exact done hI rfl
theorem oT {t:T} {S:ae} {cs:List Value} (h:RdT S cs t):Pure Tryz.prog Pk [.agg cs.toArray] S (.bool (cD t)):=by
 intro w hI
 have h0:=h
 obtain ⟨kv,rfl,_,_,hs,hks⟩:=RdT.iff.1 h
 obtain ⟨k,n,s,ks⟩:=t
 simp only [T.name,T.kids,T.kind,T.n] at h0 hs hks ⊢
 refine yA.2 ?_
 dsimp only[yA,aM]
 refine bq hI fun b1 w' hI=>?_
 refine af hI 0 rfl aR aG rfl ?_
 refine bl ?_
 have hb:cI (.mk k n s ks)=(decide (k=3) && fk s ks.length):=rfl
 rw [show cD (.mk k n s ks)=(decide (k=3) && (m8 s && (!fk s ks.length && decide (cJ s=0)))) from rfl]
 cases h1:decide (k=3)
 ·refine rpG ?_
  exact done hI rfl
 ·rw [h1] at hb
  refine rpG ?_
  refine af hI 0 rfl bb aU rfl ?_
  refine Run.callPure ui s4 hI (rS s hs S) fun w' hI=>?_
  cases h2:m8 s
  ·refine rpG ?_
   exact done hI rfl
  ·refine rpG ?_
   refine af hI 0 rfl bb aU rfl ?_
   refine Run.callPure Vd VA hI (Rh s S) fun w' hI=>?_
   refine bQ ?_
   rw [VF]
   cases h3:decide (cJ s=0)
   ·refine rpG ?_
    exact done hI (by simp)
   ·refine rpG ?_
    refine av hI 0 ad rfl rfl ?_
    refine Run.callPure jy jx hI (iS h0) fun w' hI=>?_
    refine bQ ?_
    refine rpG ?_
    exact done hI (by rw [hb]; simp)
theorem zM {t:T} {S:ae} {cs:List Value} (h:RdT S cs t):Pure Tryz.prog Sj [.agg cs.toArray] S (.bool (W2 t)):=by
 intro w hI
 obtain ⟨kv,rfl,_,_,hs,hks⟩:=RdT.iff.1 h
 obtain ⟨k,n,s,ks⟩:=t
 simp only [T.name,T.kids,T.kind,T.n] at hs hks ⊢
 refine DO.2 ?_
 dsimp only[DO,aM]
 refine bq hI fun b1 w' hI=>?_
 refine af hI 0 rfl aR aG rfl ?_
 refine bl ?_
 rw [show W2 (.mk k n s ks)=(decide (k=3) && decide (ks.length=0)) from rfl]
 cases h3:decide (k=3)
 ·refine rpG ?_
  exact done hI rfl
 ·refine rpG ?_
  refine af hI 0 rfl ao aj rfl ?_
  refine aF hks ag ?_
  refine bl ?_
  refine rpG ?_
  exact done hI (by simp)
theorem lg {t:T} {S:ae} {cs:List Value} (h:RdT S cs t):Pure Tryz.prog UN [.agg cs.toArray] S (.bool (fS t)):=by
 intro w hI
 have h0:=h
 obtain ⟨kv,rfl,_,_,hs,hks⟩:=RdT.iff.1 h
 obtain ⟨k,n,s,ks⟩:=t
 simp only [T.name,T.kids,T.kind,T.n] at h0 hs hks ⊢
 refine HM.2 ?_
 dsimp only[HM,aM]
 refine bq hI fun b1 w' hI=>?_
 refine av hI 0 ad rfl rfl ?_
 refine Run.callPure Dx D1 hI (zM h0) fun w' hI=>?_
 rw [show fS (.mk k n s ks)=(decide (k=3) && (decide (s=⟨#[33]⟩) && decide (ks.length=0))) from rfl]
 cases h1:W2 (.mk k n s ks)
 ·refine rpG ?_
  refine done hI ?_
  replace h1:(decide (k=3) && decide (ks.length=0))=false:=h1
  cases h2:decide (k=3)
  ·rfl
  ·rw [h2,dg] at h1
   rw [h1,kY]; rfl
 ·refine rpG ?_
  refine af hI 0 rfl bb aU rfl ?_
  refine bS ?_
  refine rpG ?_
  refine done hI ?_
  replace h1:(decide (k=3) && decide (ks.length=0))=true:=h1
  rw [bu] at h1
  rw [h1.1,h1.2]; simp
theorem j9 {t:T} {S:ae} {cs:List Value} (h:RdT S cs t):Pure Tryz.prog Jb [.agg cs.toArray] S (.bool (eq t)):=by
 intro w hI
 have hl:=h.length
 refine tp.2 ?_
 dsimp only[tp,aM]
 refine bq hI fun b1 w' hI=>?_
 refine av hI 0 ad rfl (by simpa [Value.cells] using hl) ?_
 refine Run.callPure mw nl hI (jZ h) fun w' hI=>?_
 rw [eq]
 cases h1:dt t
 ·refine rpG ?_
  exact done hI rfl
 ·refine rpG ?_
  refine av hI 0 ad rfl (by simpa [Value.cells] using hl) ?_
  refine Run.callPure qy ra hI (oT h) fun w' hI=>?_
  cases h2:cD t
  ·refine rpG ?_
   refine av hI 0 ad rfl (by simpa [Value.cells] using hl) ?_
   refine Run.callPure jy jx hI (iS h) fun w' hI=>?_
   cases h3:cI t
   ·refine rpG ?_
    refine av hI 0 ad rfl (by simpa [Value.cells] using hl) ?_
    refine Run.callPure ml mu hI (lg h) fun w' hI=>?_
    refine rpG ?_
    exact done hI (by simp)
   ·refine rpG ?_
    exact done hI (by simp)
  ·refine rpG ?_
   exact done hI (by simp)

theorem qH {α:Type} (p:α->Bool):∀ xs:List α,(!xs.any fun x=>!p x)=xs.all p
 | []=>rfl
 | x::xs=>by
  rw [fR,TQ,<- qH p xs]
  cases p x <;> simp

theorem vp {x:T} {S:ae} {cs:List Value} (h:RdT S cs x):Pure Tryz.prog p8 [.agg cs.toArray] S (.bool (!eq x)):=by
 intro w hI
 have hl:=h.length
 refine ol.2 ?_
 dsimp only[ol,aM]
 refine bq hI fun b1 w' hI=>?_
 refine av hI 0 ad rfl (by simpa [Value.cells] using hl) ?_
 refine Run.callPure mX mL hI (j9 h) fun w' hI=>?_
 refine bQ (done hI rfl)
theorem nY {xs:List T} {S:ae} {v:Value} (h:RdSl S 4 (RdT S) v xs):Pure Tryz.prog F1 [v] S (.bool (eN xs)):=by
 intro w hI
 refine rn.2 ?_
 dsimp only[rn,aM]
 refine aF h ag ?_
 refine gy ?_
 rw [eN]
 by_cases hle:xs.length<=6
 ·rw [aI (show (xs.length:Int)<=6 by omega),aI hle]
  refine rpG ?_
  have hcb:Cb Tryz.prog p8 _ [] S (fun _:Unit=>[]) (fun _=>True) (fun _ x=>(!eq x,())) (fun v x=>∃ cs,v=.agg cs.toArray/\RdT S cs x) xs:=
   Cb.pure [] zP yl fun x v _=>by
    rintro ⟨cs,rfl,hcs⟩ w1 hI
    exact (vp hcs w1 hI).mono fun e w' ⟨he,hI⟩=>⟨_,_,_,he,hI,Ext.refl _ _ _,rfl,rfl,rfl⟩
  refine Run.call0 d5 d4 hI (ft hcb h (st:=()) trivial) fun v' I' S' w'=>?_
  rintro ⟨rfl,rfl,rfl⟩ _ hI
  refine bQ ?_
  refine rpG ?_
  refine done hI ?_
  rw [ip (fun x=>!eq x) xs,qH]; rfl
 ·rw [aP (show ¬ (xs.length:Int)<=6 by omega),aP hle]
  refine rpG ?_
  exact done hI rfl
theorem xr {c:C} {S:ae} {cs:List Value} (h:RdC S cs c):Pure Tryz.prog ES [.agg cs.toArray] S (.bool (bK c)):=by
 intro w hI
 obtain ⟨hd,ks,rfl,h1,h2⟩:=h
 have h1':=h1
 obtain ⟨kv,rfl,g1,g2,g3,g4⟩:=RdT.iff.1 h1
 have hfin:bK c=(dt c.head && (cD c.head && eN c.body)):=by
  unfold bK eN
  cases dt c.head <;> cases cD c.head <;> simp
 refine pT.2 ?_
 dsimp only[pT,aM]
 rw [hfin]
 refine bq hI fun b1 w' hI=>?_
 refine au cE ?_
 refine di hI 0 [.int .i64 c.head.kind,.int .i64 c.head.n,.string c.head.name,kv] ad rfl rfl ?_ ?_
 ·intro j v hj
  match j with
  | 0|1|2|3=>exact hj
  | j+4=>simp at hj
 refine Run.callPure mw nl hI (jZ h1') fun w' hI=>?_
 cases hv:dt c.head
 ·refine rpG ?_
  exact done hI rfl
 ·refine rpG ?_
  refine au cE ?_
  refine di hI 0 [.int .i64 c.head.kind,.int .i64 c.head.n,.string c.head.name,kv] ad rfl rfl ?_ ?_
  ·intro j v hj
   match j with
   | 0|1|2|3=>exact hj
   | j+4=>simp at hj
  refine Run.callPure qy ra hI (oT h1') fun w' hI=>?_
  cases hp:cD c.head
  ·refine rpG ?_
   exact done hI rfl
  ·refine rpG ?_
   refine af hI 0 rfl bj aj rfl ?_
   refine Run.callPure rB rA hI (nY h2) fun w' hI=>?_
   refine rpG ?_
   exact done hI rfl

theorem sf {x:C} {S:ae} {cs:List Value} (h:RdC S cs x):Pure Tryz.prog mJ [.agg cs.toArray] S (.bool (!bK x)):=by
 intro w hI
 have hl:=h.length
 refine lI.2 ?_
 dsimp only[lI,aM]
 refine bq hI fun b1 w' hI=>?_
 refine av hI 0 bx rfl (by simpa [Value.cells] using hl) ?_
 refine Run.callPure Cx BR hI (xr h) fun w' hI=>?_
 refine bQ (done hI rfl)
theorem fP {xs:List C} {S:ae} {v:Value} (h:RdSl S 5 (RdC S) v xs):Pure Tryz.prog A8 [v] S (.bool (de xs)):=by
 intro w hI
 refine oI.2 ?_
 dsimp only[oI,aM]
 refine aF h b0 ?_
 refine gy ?_
 rw [de]
 by_cases hle:xs.length<=20
 ·rw [aI (show (xs.length:Int)<=20 by omega),aI hle]
  refine rpG ?_
  have hcb:Cb Tryz.prog mJ _ [] S (fun _:Unit=>[]) (fun _=>True) (fun _ x=>(!bK x,())) (fun v x=>∃ cs,v=.agg cs.toArray/\RdC S cs x) xs:=
   Cb.pure [] vq vi fun x v _=>by
    rintro ⟨cs,rfl,hcs⟩ w1 hI
    exact (sf hcs w1 hI).mono fun e w' ⟨he,hI⟩=>⟨_,_,_,he,hI,Ext.refl _ _ _,rfl,rfl,rfl⟩
  refine Run.call0 iJ iQ hI (jB hcb h (st:=()) trivial) fun v' I' S' w'=>?_
  rintro ⟨rfl,rfl,rfl⟩ _ hI
  refine bQ ?_
  refine rpG ?_
  refine done hI ?_
  rw [ip (fun x=>!bK x) xs,qH]; rfl
 ·rw [aP (show ¬ (xs.length:Int)<=20 by omega),aP hle]
  refine rpG ?_
  exact done hI rfl
theorem yo {xs:List T} {S:ae} {v:Value} (h:RdSl S 4 (RdT S) v xs):Pure Tryz.prog Gz [v] S (.bool (eN xs)):=by
 intro w hI
 refine rp.2 ?_
 dsimp only[rp,aM]
 refine Run.callPure rB rA hI (nY h) fun w' hI=>done hI rfl
end
section
open Go Go.RowKit
attribute [local irreducible] Run CondV az aO

def RowRd (S:ae) (v:Value) (e:TypeId) (k n:Nat) (xs:List Value):Prop:=
 xs.length=n * k/\((v=.slice none 0 0/\n=0) ∨ ∃ g cap cur,v=.slice (some ⟨g,0,none⟩) n cap/\S g=some (.cells cur e)/\n<=cap/\cap<=maxLen/\cur.size=cap * k/\cur.toList.take (n * k)=xs)
theorem Inv.lend {w0 w:World} {X:List Nat} {A:List Item} {S:ae} {v:Value} {e:TypeId} {k n:Nat} {xs:List Value} (h:Inv w0 X (A++[.row v e k n xs]) S w) :
  ∃ S',Sle S S'/\RowRd S' v e k n xs/\Inv w0 X A S' w/\∀ B w',Inv w0 X B S' w'->Inv w0 X (B++[.row v e k n xs]) S w':=by
 have hm:w.ownsRow 0 e k v n xs:=h.its (.row v e k n xs) (by simp)
 obtain ⟨hl,hm⟩:=hm
 rcases hm with ⟨rfl,rfl⟩|⟨g,cap,cur,rfl,_,hg,hnc,hcm,hcs,ht⟩
 ·have:xs=[]:=gO (by rw [hl,Cf])
  subst this
  exact ⟨S,Sle.refl S,⟨hl,.inl ⟨rfl,rfl⟩⟩,h.sub (dB _ _),fun B w' hB=>hB.rowNil e k⟩
 ·have hf:bE (A++[Item.blk g (.cells cur e)])=bE (A++[Item.row (.slice (some ⟨g,0,none⟩) n cap) e k n xs]):=by
   simp [bE,Item.foot,Value.ownBlock]
  have hg':g∈bE (A++[Item.row (.slice (some ⟨g,0,none⟩) n cap) e k n xs]):=by simp [bE,Item.foot,Value.ownBlock]
  have h':Inv w0 X (A++[Item.blk g (.cells cur e)]) S w:=by
   refine ⟨h.size,h.os,h.tape,h.output,h.old,fun it hit=>?_,by rw [hf]; exact h.nd,by rw [hf]; exact h.new,by rw [hf]; exact h.pub⟩
   rcases bO.1 hit with hit|hit
   ·exact h.its it (dy _ hit)
   ·simp at hit
    subst hit
    exact hg
  obtain ⟨h1,h2⟩:=h'.publishLast
  refine ⟨mS S g (.cells cur e),h2,⟨hl,.inr ⟨g,cap,cur,rfl,by simp [mS],hnc,hcm,hcs,ht⟩⟩,h1,fun B w' hB=>?_⟩
  have hpg:=hB.pub g (.cells cur e) (by simp [mS])
  have hfB:bE (B++[Item.row (.slice (some ⟨g,0,none⟩) n cap) e k n xs])=bE B++[g]:=by simp [bE,Item.foot,Value.ownBlock]
  refine ⟨hB.size,hB.os,hB.tape,hB.output,hB.old,fun it hit=>?_,?_,?_,?_⟩
  ·rcases bO.1 hit with hit|hit
   ·exact hB.its it hit
   ·simp at hit
    subst hit
    exact ⟨hl,.inr ⟨g,cap,cur,rfl,be _,hpg.1,hnc,hcm,hcs,ht⟩⟩
  ·rw [hfB,rc]
   refine ⟨hB.nd,by simp,fun a ha b hb=>?_⟩
   simp at hb
   subst hb
   intro e'
   subst e'
   exact hpg.2 ha
  ·intro c hc
   rw [hfB] at hc
   rcases bO.1 hc with hc|hc
   ·exact hB.new c hc
   ·simp at hc
    subst hc
    exact h.new _ hg'
  ·intro c o hc
   have hne:c≠g:=fun e'=>by
    subst e'
    exact (h.pub c o hc).2 hg'
   have:=hB.pub c o (by simp only [mS]; rw [ah hne]; exact hc)
   refine ⟨this.1,?_⟩
   rw [hfB]
   intro hc'
   rcases bO.1 hc' with hc'|hc'
   ·exact this.2 hc'
   ·simp at hc'
    exact hne hc'
theorem Ub {α:Type} (f:α->List Value) (k:Nat) (hf:∀ y,(f y).length=k):∀ (ys:List α) (i:Nat) (h:i<ys.length),((ys.flatMap f).drop (i * k)).take k=f ys[i]
 | [],i,h=>by simp at h
 | y::ys,0,h=>by
  rw [rt,Cf,Lb,QU (by rw [hf]; exact aW _),MU (by rw [hf]; exact aW _)]
  rfl
 | y::ys,i+1,h=>by
  rw [rt,lw,qK,<- Tn,List.drop_left' (hf y)]
  exact Ub f k hf ys i (by simpa using h)
theorem RowRd.rd {α:Type} {S:ae} {v:Value} {e:TypeId} {k:Nat} {f:α->List Value} {R:List Value->α->Prop} {ys:List α} (hf:∀ y,(f y).length=k) (hR:∀ y∈ys,R (f y) y)
  (h:RowRd S v e k ys.length (ys.flatMap f)):RdSl S k R v ys:=by
 obtain ⟨hl,h⟩:=h
 rcases h with ⟨rfl,h0⟩|⟨g,cap,cur,rfl,hS,hnc,hcm,hcs,ht⟩
 ·have:ys=[]:=gO h0
  subst this
  exact ⟨none,0,rfl,aW _,be _,.inl rfl⟩
 ·refine ⟨_,cap,rfl,hnc,hcm,.inr ⟨g,0,cur,e,(0,0),rfl,hS,fun i hi=>?_⟩⟩
  have:=Ub f k hf ys i hi
  have hik:i * k+k<=ys.length * k:=by rw [<- lw]; exact ja k hi
  rw [<- ht,N3,oX,lm (by omega)] at this
  rw [aX,cq,this]
  exact hR _ (bz hi)

def ints (ns:List Int):List Value:=ns.flatMap fun n=>[.int .i64 n]
abbrev dz (v:Value) (ns:List Int):Item:=.row v bV 1 ns.length (ints ns)
theorem u5 (ns:List Int) (n:Int):ints ns++[.int .i64 n]=ints (ns++[n]):=by simp [ints]
theorem RowRd.ints {S:ae} {v:Value} {e:TypeId} {ns:List Int} (h:RowRd S v e 1 ns.length (ints ns)):RdSl S 1 jz v ns:=
 RowRd.rd (f:=fun n=>[Value.int .i64 n]) (fun _=>rfl) (fun _ _=>rfl) h
def jL (l:List Int) (n:Int):Bool:=l.any fun x=>decide (n=x)
def ly (l:List Int) (n:Int):List Int:=if jL l n=true then l else l++[n]
theorem MZ (l:List Int) (n:Int):(ly l n).length<=l.length+1:=by
 unfold ly
 split <;> simp

theorem rX (s:Int) {xs:List Int} {S:ae} {v:Value} (h:RdSl S 1 jz v xs) :
  Pure Tryz.prog Ju [v,.int .i64 s] S (.int .i64 (co (σ:=Unit) (fun _ x=>(decide (s=x),())) () xs 0).1):=by
 intro w hI
 have hlen:=h.le
 simp only [maxLen] at hlen
 refine ul.2 ?_
 dsimp only[ul,aY]
 refine aF h dd ?_
 refine ⟨fun i w'=>∃ k:Nat,k<=xs.length/\i=.int .i64 k/\co (σ:=Unit) (fun _ x=>(decide (s=x),())) () (xs.drop k) k=co (σ:=Unit) (fun _ x=>(decide (s=x),())) () xs 0/\Inv w [] [] S w',
  fun i _=>xs.length - (intOf i).toNat,⟨0,be _,rfl,rfl,hI⟩,?_⟩
 intro t8 _ _ _ _ _ _ _ _ _ _ _ _ w'
 rintro ⟨k,hk,rfl,hrel,hI⟩
 refine bH ?_
 refine aL (fun hki=>?_) (fun hki=>?_)
 ·have hk':k<xs.length:=by omega
  rw [cU hk',co] at hrel
  refine i5 hI h dd aG hk' (fun cs hcs=>hcs) ?_
  refine bl ?_
  refine aL (fun he=>done hI ?_) (fun he=>?_)
  ·rw [<- hrel,ai (by simpa using he)]
  ·refine bp (by omega) ?_
   rw [ah (by simpa using he)] at hrel
   exact ⟨⟨k+1,hk',rfl,hrel,hI⟩,by simp [intOf]; omega⟩
 ·have:k=xs.length:=by omega
  subst this
  rw [dO,co] at hrel
  exact done hI (by rw [<- hrel])
theorem mP (s:Int) {xs:List Int} {S:ae} {v:Value} (h:RdSl S 1 jz v xs):Pure Tryz.prog Cs [v,.int .i64 s] S (.bool (jL xs s)):=by
 intro w hI
 refine oh.2 ?_
 dsimp only[oh,aY]
 refine Run.callPure sK tA hI (rX s h) fun w' hI=>?_
 refine jS (done hI ?_)
 rw [(jc _ xs () 0).1,ip]; rfl
theorem Cg {σ:Type} {f:FuncId} {fn:Func} {cap:List Value} {S:ae} {It:σ->List Item} {ok:σ->Prop} {step:σ->Int->Bool × σ} {xs:List Int} {v:Value}
  (hcb:Cb Tryz.prog f fn cap S It ok step (fun v x=>v=.int .i64 x) xs) (h:RdSl S 1 jz v xs) {st:σ} (hok:ok st) :
  Tri Tryz.prog AA [v,fv f cap] (It st) S fun r I' S'=>r=.int .i64 (co step st xs 0).1/\I'=It (co step st xs 0).2/\S'=S:=by
 intro w hI
 have hlen:=h.le
 simp only [maxLen] at hlen
 refine nj.2 ?_
 dsimp only[nj,aY]
 refine aF h dd ?_
 refine ⟨fun i w'=>∃ (k:Nat) (st':σ),k<=xs.length/\i=.int .i64 k/\ok st'/\co step st' (xs.drop k) k=co step st xs 0/\Inv w (bE (It st)) (It st') S w',fun i _=>xs.length - (intOf i).toNat,
  ⟨0,st,be _,rfl,hok,rfl,hI⟩,?_⟩
 intro t8 _ _ _ _ _ _ _ _ _ _ _ _ w'
 rintro ⟨k,st',hk,rfl,hok',hrel,hI⟩
 refine bH ?_
 refine aL (fun hki=>?_) (fun hki=>?_)
 ·have hk':k<xs.length:=by omega
  have hm:=bz hk'
  have hstep:co step st' (xs.drop k) k=if (step st' xs[k]).1 then ((k:Int),(step st' xs[k]).2) else co step (step st' xs[k]).2 (xs.drop (k+1)) (k+1):=by
   rw [cU hk',co]
  refine i5 hI h dd aG hk' (fun cs hcs=>hcs) ?_
  refine Run.callV (A:=[]) (args:=[.int .i64 xs[k]]) hcb.hf hcb.hn (by simpa using hI) (hcb.call st' _ _ hm hok' rfl) fun v' I' S' w'=>?_
  rintro ⟨rfl,rfl,rfl⟩ _ hI
  refine aw (fun hb=>?_) (fun hb=>?_)
  ·rw [ai hb] at hstep
   refine ⟨_,_,_,rfl,by simpa using hI,Ext.refl _ _ _,?_,?_,rfl⟩
   ·rw [<- hrel,hstep]
   ·rw [<- hrel,hstep]
  ·refine bp (by omega) ?_
   rw [hb] at hstep
   refine ⟨⟨k+1,_,hk',rfl,hcb.keep st' _ hm hok' hb,?_,by simpa using hI⟩,by simp [intOf]; omega⟩
   rw [<- hrel,hstep]
   rfl
 ·have:k=xs.length:=by omega
  subst this
  rw [dO,co] at hrel
  exact ⟨_,_,_,rfl,hI,Ext.refl _ _ _,by rw [<- hrel],by rw [<- hrel],rfl⟩
theorem vr {σ:Type} {f:FuncId} {fn:Func} {cap:List Value} {S:ae} {It:σ->List Item} {ok:σ->Prop} {step:σ->Int->Bool × σ} {xs:List Int} {v:Value}
  (hcb:Cb Tryz.prog f fn cap S It ok step (fun v x=>v=.int .i64 x) xs) (h:RdSl S 1 jz v xs) {st:σ} (hok:ok st) :
  Tri Tryz.prog s3 [v,fv f cap] (It st) S fun r I' S'=>r=.bool (lX step st xs).1/\I'=It (lX step st xs).2/\S'=S:=by
 intro w hI
 refine jP.2 ?_
 dsimp only[jP,aY]
 refine Run.call (A:=[]) xt xf (by simpa using hI) (Cg hcb h hok) fun v' I' S' w'=>?_
 rintro ⟨rfl,rfl,rfl⟩ _ hI
 refine jS ?_
 have he:=jc step xs st 0
 exact ⟨_,_,_,rfl,by simpa using hI,Ext.refl _ _ _,by rw [he.1],by rw [he.2],rfl⟩
theorem OV (s:Int) {xs:List Int} {S:ae} {v:Value} (h:RdSl S 1 jz v xs):Pure Tryz.prog Vl [v,.int .i64 s] S (.bool (jL xs s)):=by
 intro w hI
 have hlen:=h.le
 simp only [maxLen] at hlen
 refine Ik.2 ?_
 dsimp only[Ik,aY]
 refine ⟨fun i w'=>∃ k:Nat,k<=xs.length/\i=.int .i64 k/\jL (xs.drop k) s=jL xs s/\Inv w [] [] S w',fun i _=>xs.length - (intOf i).toNat,⟨0,be _,rfl,rfl,hI⟩,?_⟩
 intro t5 _ _ _ _ _ _ _ _ _ _ _ _ _ w'
 rintro ⟨k,hk,rfl,hrel,hI⟩
 refine aF h dd ?_
 refine bH ?_
 refine aL (fun hki=>?_) (fun hki=>?_)
 ·have hk':k<xs.length:=by omega
  have hstep:jL (xs.drop k) s=(decide (s=xs[k]) || jL (xs.drop (k+1)) s):=FD _ xs k hk'
  refine i5 hI h dd aG hk' (fun cs hcs=>hcs) ?_
  refine bl ?_
  refine aL (fun he=>done hI ?_) (fun he=>?_)
  ·rw [<- hrel,hstep,aI he.symm]; rfl
  ·refine bp (by omega) ?_
   exact ⟨⟨k+1,hk',rfl,by rw [<- hrel,hstep,aP (fun e=>he e.symm)]; rfl,hI⟩,by simp [intOf]; omega⟩
 ·have:k=xs.length:=by omega
  subst this
  exact done hI (by rw [<- hrel,dO]; rfl)
end
end Go.Proofs.YtgllldjiaglkcaaGreatDoor
