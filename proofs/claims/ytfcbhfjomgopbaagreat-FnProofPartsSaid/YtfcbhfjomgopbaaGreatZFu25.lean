/- The clauses that a proof uses: both sides collect the same. -/
import Derived.Test.YtfcbhfjomgopbaaGreatZFu24
import Derived.Test.YtfcbhfjomgopbaaGreatZFu15
import Derived.Test.YtfcbhfjomgopbaaGreatZFu4
import Derived.Test.YtfcbhfjomgopbaaGreatZFu17
import Derived.Test.YtfcbhfjomgopbaaGreatZFu2
import Derived.Test.YtfcbhfjomgopbaaGreatZFu8
import Derived.Test.YtfcbhfjomgopbaaGreatZFu18
import Derived.Test.YtfcbhfjomgopbaaGreatZFu22
namespace Go.Proofs.YtfcbhfjomgopbaaGreat
section
open Go Go.RowKit
section
attribute [local irreducible] Run CondV aB aS
abbrev LT (b:Nat):Value:=.slice (some ⟨b,0,none⟩) 20 20
abbrev flI (b:Nat) (l:List Bool):Item:=.blk b (.cells (flg l) CH)
theorem Dz:∀ (x:PF) (S:ae) (cs:List Value) (b:Nat) (l:List Bool),RdF S cs x->mE 20 x->l.length=20->
  Tri Tryz.prog I0 [LT b,.agg cs.toArray] [flI b l] S fun r I' S'=>r=LT b/\I'=[flI b (usF x l)]/\S'=S:=by
 refine PF.ind fun g c ks ih S cs b l h hu hl=>?_
 intro w hI
 obtain ⟨kv,kf,rfl,hg,hc,hks⟩:=RdF.iff.1 h
 simp only [PF.goal,PF.kids,PF.clause] at hg hc hks ⊢
 rw [mE] at hu
 have hkl:=hks.le
 simp only [maxLen] at hkl
 refine wx.2 ?_
 dsimp only[wx,aW]
 refine bf hI fun b1 w' hI=>?_
 have hI:Inv w (bC [flI b l]) [.blk b1 (.cells #[.int .i64 g.kind,.int .i64 g.n,.string g.name,kv,.int .i64 c,kf] ag),flI b l] S w':=hI.perm (List.Perm.swap _ _ _)
 refine ⟨fun w'=>Inv w (bC [flI b l]) [.blk b1 (.cells #[.int .i64 g.kind,.int .i64 g.n,.string g.name,kv,.int .i64 c,kf] ag),flI b (if 0<=c then l.set c.toNat true else l)] S w',?_,?_⟩
 ·refine ad hI 0 rfl cA av rfl ?_
  refine fw ?_
  refine aI (fun h0=>?_) (fun h0=>?_)
  ·obtain ⟨m,rfl⟩:∃ m:Nat,c=(m:Int):=⟨c.toNat,by omega⟩
   have hm:m<20:=by have:=hu.1 h0; omega
   refine ad hI 0 rfl cA av rfl ?_
   refine ar BO hm ?_
   refine Pu hI 1 rfl HR (by omega) fun w' hI=>?_
   rw [if_pos h0,Int.toNat_natCast]
   exact hI
  ·rw [if_neg (by omega)]
   exact hI
 intro _ _ _ _ _ _ _ w'
 intro hI
 have hl1:(if 0<=c then l.set c.toNat true else l).length=20:=by split <;> simp [hl]
 refine ⟨fun i a w'=>∃ (k:Nat) (l':List Bool),k<=ks.length/\i=.int .i64 k/\a=LT b/\l'.length=20/\nH (ks.drop k) l'=nH ks (if 0<=c then l.set c.toNat true else l)/\
  Inv w (bC [flI b l]) [.blk b1 (.cells #[.int .i64 g.kind,.int .i64 g.n,.string g.name,kv,.int .i64 c,kf] ag),flI b l'] S w',fun i _ _=>ks.length - (intOf i).toNat,⟨0,_,Nat.zero_le _,rfl,rfl,hl1,rfl,hI⟩,?_⟩
 intro i _ _ a _ _ _ _ _ _ _ _ _ _ _ _ w'
 rintro ⟨k,l',hk,rfl,rfl,hl',hrel,hI⟩
 refine ad hI 0 rfl be bk rfl ?_
 refine aC hks bz ?_
 refine bq ?_
 refine aI (fun hki=>?_) (fun hki=>?_)
 ·have hk':k<ks.length:=by omega
  have hm:=List.getElem_mem hk'
  rw [Gc ks k hk'] at hrel
  refine ad hI 0 rfl be bk rfl ?_
  refine bY hI hks bz aN hk' (fun _ _=>RdF.length) fun ds hds=>?_
  refine Run.call (A:=[_]) (I:=[flI b l']) vj vO hI (ih _ hm S ds b l' hds (tY hu.2 _ hm) hl') fun v' I' S' w'=>?_
  rintro ⟨rfl,rfl,rfl⟩ _ hI
  refine bl (by omega) ?_
  exact ⟨⟨k+1,_,hk',rfl,rfl,by rw [rH,hl'],hrel,hI⟩,by simp [intOf]; omega⟩
 ·have:k=ks.length:=by omega
  subst this
  rw [List.drop_length,nH] at hrel
  refine ⟨_,_,_,rfl,hI.pick [false,true],Ext.refl _ _ _,rfl,?_,rfl⟩
  rw [usF,<- hrel]
  rfl
def usSt (w:World) (B:List Item) (S:ae) (l:List Bool) (ox xA x4:Value) (w':World):Nat->Prop
 | 0=>Inv w [] B S w'
 | 1=>∃ b,ox=LT b/\Inv w [] (B++[flI b (List.replicate 20 false)]) S w'
 | 2=>∃ b,ox=LT b/\xA=LT b/\Inv w [] (B++[flI b l]) S w'
 | _=>∃ b,x4=LT b/\Inv w [] (B++[flI b l]) S w'
theorem usSt.inv {w:World} {B:List Item} {S:ae} {l:List Bool} {ox xA x4:Value} {w':World}:∀ {n:Nat},usSt w B S l ox xA x4 w' n->∃ R,Inv w [] (B++R) S w'
 | 0,h=>⟨[],by rw [List.append_nil]; exact h⟩
 | 1,⟨_,_,h⟩=>⟨_,h⟩
 | 2,⟨_,_,_,h⟩=>⟨_,h⟩
 | _+3,⟨_,_,h⟩=>⟨_,h⟩
theorem Uv:(Array.range (20 * 1)).map ((Value.bool false).cells[· % (Value.bool false).cells.size]!)=flg (List.replicate 20 false):=by
 refine Array.ext (by simp [flg]) fun i h1 h2=>?_
 simp [flg,Value.cells,Nat.mod_one,-List.reduceReplicate]
def ixV (l:List Int):List (List Value):=l.map fun i=>[.int .i64 i]
theorem Cl:∀ (l:List Bool) (k j:Nat),j<l.length->uix k (l.take (j+1))=uix k (l.take j)++(if l[j]?=some true then [((k+j:Nat):Int)] else [])
 | [],k,j,h=>by simp at h
 | b::l,k,0,h=>by
  rw [List.take_succ_cons,List.take_zero,List.take_zero,uix,uix,uix]
  simp
 | b::l,k,j+1,h=>by
  rw [List.take_succ_cons,List.take_succ_cons,uix,uix,Cl l (k+1) j (by simpa using h),List.getElem?_cons_succ,show k+1+j=k+(j+1) by omega]
  split
  ·rw [List.cons_append]
  ·rfl
theorem EO:∀ q:List Bool,g9 q<=q.length
 | []=>by simp [g9]
 | a::q=>by
  have:=EO q
  rw [g9,List.length_cons]
  split <;> omega
theorem Ij (l:List Bool) (k:Nat) (h:k<l.length):(uix 0 (l.take k)).length<=k:=by
 rw [AR]
 have:=EO (l.take k)
 rw [List.length_take] at this
 omega
theorem O7 {l:List Bool} {j:Nat} (h:j<l.length):(flg l)[j]?=some (.bool l[j]):=by simp [flg,h]
theorem rS {x:PF} {S:ae} {cs:List Value} (h:RdF S cs x) (hw:wF x<=1048576) :
  Tri Tryz.prog AA [.agg cs.toArray] [] S fun r I' S'=>I'=[aK r bZ 1 (ixV (gF x))]/\S'=S:=by
 intro w hI
 have hl:=h.length
 refine nC.2 ?_
 dsimp only[nC,aL]
 refine bf hI fun b1 w' hI=>?_
 refine dD hI ip fun v0 w' hI=>?_
 refine ao hI 0 aN rfl (by simpa [Value.cells] using hl) ?_
 refine Run.callPure jW jO hI (il h hw) fun w' hI=>?_
 refine bK ?_
 cases hv:dO x with
 | false=>
  refine az (fun _=>?_) (fun hb=>by cases hb)
  exact ⟨_,_,_,rfl,hI.pick [false,true],Ext.refl _ _ _,by rw [gF,hv]; rfl,rfl⟩
 | true=>
  refine az (fun hb=>by cases hb) (fun _=>?_)
  have hus:=BD x hv
  have hI:Inv w [] [.blk b1 (.cells (Value.agg cs.toArray).cells ag),aK v0 bZ 1 []] S w':=hI
  refine ⟨fun D x4 xA Cn ox w_=>Fx D 0 [True,Cn=.agg cs.toArray,True,True]/\∃ n_:Nat,n_<=3/\D 0=decide (1<=n_)/\D 2=decide (2<=n_)/\D 3=decide (3<=n_)/\(usSt w [.blk b1 (.cells (Value.agg cs.toArray).cells ag),aK v0 bZ 1 []] S (usF x (List.replicate 20 false)) ox xA x4 w_ n_),⟨Fx.nil _ _,⟨0,Nat.zero_le _,rfl,rfl,rfl,hI.draw⟩⟩,⟨?_,?_,?_,?_,trivial⟩,?_⟩
  all_goals (intro D bn; intros; rename_i x4 xA Cn ox w_ hA_; have hF_:=hA_.1; obtain ⟨⟨bR,bQ,bG,bS,_⟩,⟨n_,ln_,e1_,e2_,e3_,hS⟩⟩:=hA_)
  ·obtain rfl:n_=0:=rT e1_ bn
   refine ki (n:=20) hS PZ (by decide) (by decide) (by decide) fun b w_ hI=>?_
   rw [Uv] at hI
   exact ⟨hF_.set 0 (by first|assumption|trivial),⟨1,by decide,rfl,(by first|exact e2_|rfl),(by first|exact e3_|rfl),⟨b,rfl,hI⟩⟩⟩
  ·obtain ⟨R,hI⟩:=hS.inv
   refine ao hI 0 aN rfl (by simpa [Value.cells] using hl) ?_
   exact ⟨hF_.set 1 rfl,⟨n_,ln_,e1_,e2_,e3_,hS⟩⟩
  ·have TQ:=bR ‹_›
   obtain rfl:=bQ ‹_›
   obtain rfl:n_=1:=fD e1_ ‹D 0=true› e2_ bn
   obtain ⟨b,rfl,hI⟩:=hS
   refine Run.call vj vO hI (Dz x S cs b _ h hus (by simp)) fun v' I' S' w_=>?_
   rintro ⟨rfl,rfl,rfl⟩ _ hI
   exact ⟨hF_.set 2 (by first|assumption|trivial),⟨2,by decide,(by first|exact e1_|rfl),rfl,(by first|exact e3_|rfl),⟨b,rfl,rfl,hI⟩⟩⟩
  ·have Pm:=bG ‹_›
   obtain rfl:n_=2:=fD e2_ ‹D 2=true› e3_ bn
   obtain ⟨b,rfl,rfl,hI⟩:=hS
   exact ⟨hF_.set 3 (by first|assumption|trivial),⟨3,by decide,(by first|exact e1_|rfl),(by first|exact e2_|rfl),rfl,⟨b,rfl,hI⟩⟩⟩
  obtain rfl:n_=3:=kB ln_ e3_ ‹D 3=true›
  clear e1_ e2_ e3_
  obtain ⟨b,rfl,hI⟩:=hS
  obtain ⟨l,hll⟩:∃ l,l=usF x (List.replicate 20 false):=⟨_,rfl⟩
  have hln:l.length=20:=by rw [hll,rH,List.length_replicate]
  rw [<- hll] at hI
  have hus0:gF x=uix 0 l:=by rw [gF,if_pos hv,hll]
  rw [hus0]
  refine ⟨fun i v w'=>∃ k:Nat,k<=20/\i=.int .i64 k/\Inv w [] [.blk b1 (.cells (Value.agg cs.toArray).cells ag),aK v bZ 1 (ixV (uix 0 (l.take k))),flI b l] S w',fun i _ _=>20 - (intOf i).toNat,⟨0,Nat.zero_le _,rfl,hI⟩,?_⟩
  intro i _ _ v _ _ _ _ _ _ _ _ _ _ _ _ w'
  rintro ⟨k,hk,rfl,hI⟩
  refine dK BO ?_
  refine bq ?_
  refine aI (fun hki=>?_) (fun hki=>?_)
  ·have hk':k<20:=by omega
   have hsn:=Cl l 0 k (by omega)
   rw [Nat.zero_add,List.getElem?_eq_getElem (by omega)] at hsn
   have htr:=Ij l k (by omega)
   refine ⟨fun v w'=>Inv w [] [.blk b1 (.cells (Value.agg cs.toArray).cells ag),aK v bZ 1 (ixV (uix 0 (l.take (k+1)))),flI b l] S w',?_,?_⟩
   ·refine ar BO hk' ?_
    rw [Nat.zero_add,Nat.mul_one]
    refine aA hI 2 HR rfl (O7 (by omega)) ?_
    rw [hsn]
    cases hb:l[k] with
    | true=>
     refine az (fun _=>?_) (fun hb=>by cases hb)
     refine ud hI 1 ip rfl rfl rfl (by simp [ixV]; omega) (by decide) fun v' w' hI=>?_
     simpa [ixV] using hI
    | false=>
     refine az (fun hb=>by cases hb) (fun _=>?_)
     simpa [ixV] using hI
   intro v _ _ _ _ _ _ _ _ w'
   intro hI
   refine bl (by omega) ?_
   exact ⟨⟨k+1,hk',rfl,hI⟩,by simp [intOf]; omega⟩
  ·have:k=20:=by omega
   subst this
   rw [List.take_of_length_le (by omega)] at hI
   exact ⟨_,_,_,rfl,hI.pick [false,true,false],Ext.refl _ _ _,rfl,rfl⟩
abbrev flA (b:Nat) (l:List Bool):Item:=.blk b (.cells (flg l) FN)
def usA (w:World) (X:List Nat) (B:List Item) (S:ae) (b:Nat) (l l2:List Bool) (w':World):Nat->Prop
 | 0=>Inv w X (B++[flA b l]) S w'
 | _=>Inv w X (B++[flA b l2]) S w'
theorem usA.inv {w:World} {X:List Nat} {B:List Item} {S:ae} {b:Nat} {l l2:List Bool} {w':World}:∀ {n:Nat},usA w X B S b l l2 w' n->∃ R,Inv w X (B++R) S w'
 | 0,h=>⟨_,h⟩
 | _+1,h=>⟨_,h⟩
theorem Jx:∀ (x:PF) (S:ae) (cs:List Value) (b:Nat) (l:List Bool),RdF S cs x->mE 20 x->l.length=20->
  Tri Tryz.prog P1 [.agg cs.toArray,.pointer (some ⟨b,0,none⟩)] [flA b l] S fun _ I' S'=>I'=[flA b (usF x l)]/\S'=S:=by
 refine PF.ind fun g c ks ih S cs b l h hu hl=>?_
 intro w hI
 obtain ⟨kv,kf,rfl,hg,hc,hks⟩:=RdF.iff.1 h
 simp only [PF.goal,PF.kids,PF.clause] at hg hc hks ⊢
 rw [mE] at hu
 have hkl:=hks.le
 simp only [maxLen] at hkl
 refine FB.2 ?_
 dsimp only[FB,aW]
 refine bf hI fun b1 w' hI=>?_
 have hI:Inv w (bC [flA b l]) ([.blk b1 (.cells #[.int .i64 g.kind,.int .i64 g.n,.string g.name,kv,.int .i64 c,kf] ag)]++[flA b l]) S w':=hI.perm (List.Perm.swap _ _ _)
 refine ⟨fun w'=>Inv w (bC [flA b l]) [.blk b1 (.cells #[.int .i64 g.kind,.int .i64 g.n,.string g.name,kv,.int .i64 c,kf] ag),flA b (if 0<=c then l.set c.toNat true else l)] S w',?_,?_⟩
 ·refine ad hI 0 rfl cA av rfl ?_
  refine fw ?_
  refine aI (fun h0=>?_) (fun h0=>?_)
  ·obtain ⟨m,rfl⟩:∃ m:Nat,c=(m:Int):=⟨c.toNat,by omega⟩
   have hm:m<20:=by have:=hu.1 h0; omega
   refine ⟨fun D xA Cn ox Kl x9 w_=>Fx D 0 [x9=.pointer (some ⟨b,0,none⟩),Kl=.pointer (some ⟨b1,4,none⟩),ox=.int .i64 (m:Int),Cn=.pointer (some ⟨b,0,none⟩),xA=.pointer (some ⟨b,0+m * 1,none⟩),True]/\∃ n_:Nat,n_<=1/\D 5=decide (1<=n_)/\(usA w (bC [flA b l]) [.blk b1 (.cells #[.int .i64 g.kind,.int .i64 g.n,.string g.name,kv,.int .i64 (m:Int),kf] ag)] S b l (l.set m true) w_ n_),⟨Fx.nil _ _,⟨0,Nat.zero_le _,rfl,hI.draw⟩⟩,⟨?_,?_,?_,?_,?_,?_,trivial⟩,?_⟩
   all_goals (intro D bn; intros; rename_i xA Cn ox Kl x9 w_ hA_; have hF_:=hA_.1; obtain ⟨⟨bR,bQ,bG,bS,bU,bB,_⟩,⟨n_,ln_,e1_,hS⟩⟩:=hA_)
   ·exact ⟨hF_.set 0 rfl,⟨n_,ln_,e1_,hS⟩⟩
   ·refine ai cA ?_
    exact ⟨hF_.set 1 rfl,⟨n_,ln_,e1_,hS⟩⟩
   ·obtain rfl:=bQ ‹_›
    obtain ⟨R,hI⟩:=hS.inv
    refine aA hI 0 av rfl rfl ?_
    exact ⟨hF_.set 2 rfl,⟨n_,ln_,e1_,hS⟩⟩
   ·obtain rfl:=bR ‹_›
    refine bF ?_
    exact ⟨hF_.set 3 rfl,⟨n_,ln_,e1_,hS⟩⟩
   ·obtain rfl:=bS ‹_›
    obtain rfl:=bG ‹_›
    refine Hh CI hm ?_
    exact ⟨hF_.set 4 rfl,⟨n_,ln_,e1_,hS⟩⟩
   ·obtain rfl:=bU ‹_›
    obtain rfl:n_=0:=rT e1_ bn
    refine Pu (l:=l) hS 1 rfl HR (by omega) fun w_ hI=>?_
    exact ⟨hF_.set 5 trivial,⟨1,by decide,rfl,hI⟩⟩
   obtain rfl:n_=1:=kB ln_ e1_ ‹D 5=true›
   clear e1_
   rw [if_pos h0,Int.toNat_natCast]
   exact hS
  ·rw [if_neg (by omega)]
   exact hI
 intro _ _ _ _ _ _ _ _ w'
 intro hI
 have hl1:(if 0<=c then l.set c.toNat true else l).length=20:=by split <;> simp [hl]
 refine ad hI 0 rfl be bk rfl ?_
 refine aC hks bz ?_
 refine ⟨fun i w'=>∃ (k:Nat) (l':List Bool),k<=ks.length/\i=.int .i64 k/\l'.length=20/\nH (ks.drop k) l'=nH ks (if 0<=c then l.set c.toNat true else l)/\
  Inv w (bC [flA b l]) [.blk b1 (.cells #[.int .i64 g.kind,.int .i64 g.n,.string g.name,kv,.int .i64 c,kf] ag),flA b l'] S w',fun i _=>ks.length - (intOf i).toNat,⟨0,_,Nat.zero_le _,rfl,hl1,rfl,hI⟩,?_⟩
 intro i _ _ _ _ _ _ _ _ w'
 rintro ⟨k,l',hk,rfl,hl',hrel,hI⟩
 refine bq ?_
 refine aI (fun hki=>?_) (fun hki=>?_)
 ·have hk':k<ks.length:=by omega
  have hm:=List.getElem_mem hk'
  rw [Gc ks k hk'] at hrel
  refine bY hI hks bz aN hk' (fun _ _=>RdF.length) fun ds hds=>?_
  have hdl:=hds.length
  refine aD hI dh fun b2 w' hI=>?_
  refine aq hI 2 rfl aN (by simpa using hdl) rfl (by simpa using hds.one) fun w' hI=>?_
  refine ao hI 2 aN rfl (by simpa using hdl) ?_
  have hI:=hI.perm (M:=[_,.blk b2 (.cells ds.toArray ag)]++[flA b l']) ((List.Perm.swap _ _ _).cons _)
  refine Run.call EM FK hI (ih _ hm S ds b l' hds (tY hu.2 _ hm) hl') fun v' I' S' w'=>?_
  rintro ⟨rfl,rfl⟩ _ hI
  refine bl (by omega) ?_
  exact ⟨⟨k+1,_,hk',rfl,by rw [rH,hl'],hrel,hI.pick [true,false,true]⟩,by simp [intOf]; omega⟩
 ·have:k=ks.length:=by omega
  subst this
  rw [List.drop_length,nH] at hrel
  refine ⟨_,_,_,rfl,hI.pick [false,true],Ext.refl _ _ _,?_,rfl⟩
  rw [usF,<- hrel]
  rfl
theorem jZ {x:PF} {S:ae} {cs:List Value} (h:RdF S cs x) :
  Tri Tryz.prog Aw [.agg cs.toArray] [] S fun r I' S'=>I'=[aK r bZ 1 (ixV (gF x))]/\S'=S:=by
 intro w hI
 have hl:=h.length
 refine nf.2 ?_
 dsimp only[nf,aL]
 refine bf hI fun b1 w' hI=>?_
 refine ao hI 0 aN rfl (by simpa [Value.cells] using hl) ?_
 refine Run.callPure o3 oW hI (mz h) fun w' hI=>?_
 refine bK ?_
 cases hv:dO x with
 | false=>
  refine az (fun _=>?_) (fun hb=>by cases hb)
  have hI:=hI.rowNil bZ 1
  exact ⟨_,_,_,rfl,hI.pick [false,true],Ext.refl _ _ _,by rw [gF,hv]; rfl,rfl⟩
 | true=>
  refine az (fun hb=>by cases hb) (fun _=>?_)
  have hus:=BD x hv
  refine aD hI MP fun b w' hI=>?_
  refine ao hI 0 aN rfl (by simpa [Value.cells] using hl) ?_
  have hI:Inv w [] ([.blk b1 (.cells (Value.agg cs.toArray).cells ag)]++[flA b (List.replicate 20 false)]) S w':=hI
  refine Run.call EM FK hI (Jx x S cs b _ h hus (by simp)) fun v' I' S' w'=>?_
  rintro ⟨rfl,eS⟩ _ hI
  rw [eS] at hI
  obtain ⟨l,hll⟩:∃ l,l=usF x (List.replicate 20 false):=⟨_,rfl⟩
  have hln:l.length=20:=by rw [hll,rH,List.length_replicate]
  rw [<- hll] at hI
  have hus0:gF x=uix 0 l:=by rw [gF,if_pos hv,hll]
  rw [hus0]
  refine ao hI 1 Mw rfl (by rw [IM,hln]) ?_
  have hI:=hI.rowNil bZ 1
  refine ⟨fun i v w'=>∃ k:Nat,k<=20/\i=.int .i64 k/\Inv w [] [.blk b1 (.cells (Value.agg cs.toArray).cells ag),flA b l,aK v bZ 1 (ixV (uix 0 (l.take k)))] S w',fun i _ _=>20 - (intOf i).toNat,⟨0,Nat.zero_le _,rfl,hI⟩,?_⟩
  intro i _ v _ _ _ _ _ _ _ _ _ _ w'
  rintro ⟨k,hk,rfl,hI⟩
  refine bq ?_
  refine aI (fun hki=>?_) (fun hki=>?_)
  ·have hk':k<20:=by omega
   have hsn:=Cl l 0 k (by omega)
   rw [Nat.zero_add,List.getElem?_eq_getElem (by omega)] at hsn
   have htr:=Ij l k (by omega)
   refine ⟨fun v w'=>Inv w [] [.blk b1 (.cells (Value.agg cs.toArray).cells ag),flA b l,aK v bZ 1 (ixV (uix 0 (l.take (k+1))))] S w',?_,?_⟩
   ·refine PX CI ry hk' (O7 (by omega)) ?_
    rw [hsn]
    cases hb:l[k] with
    | true=>
     refine az (fun _=>?_) (fun hb=>by cases hb)
     refine ud hI 2 ip rfl rfl rfl (by simp [ixV]; omega) (by decide) fun v' w' hI=>?_
     simpa [ixV] using hI
    | false=>
     refine az (fun hb=>by cases hb) (fun _=>?_)
     simpa [ixV] using hI
   intro v _ _ _ _ _ _ _ _ _ w'
   intro hI
   refine bl (by omega) ?_
   exact ⟨⟨k+1,hk',rfl,hI⟩,by simp [intOf]; omega⟩
  ·have:k=20:=by omega
   subst this
   rw [List.take_of_length_le (by omega)] at hI
   exact ⟨_,_,_,rfl,hI.pick [false,false,true],Ext.refl _ _ _,rfl,rfl⟩
end
end
section
open Go Go.RowKit
def QK (cs:List Value) (n:Int):Prop:=cs=[.int .i64 n]
theorem RowRd.ix {S:ae} {v:Value} {e:TypeId} {l:List Int} (h:RowRd S v e 1 (ixV l).length (ixV l).flatten):RdSl S 1 QK v l:=by
 have e1:(ixV l).length=l.length:=by simp [ixV]
 have e2:(ixV l).flatten=l.flatMap fun n=>[.int .i64 n]:=by rw [ixV,List.flatMap_def]
 rw [e1,e2] at h
 exact RowRd.rd (f:=fun n:Int=>[Value.int .i64 n]) (fun _=>rfl) (fun _ _=>rfl) h
section
variable {w0 w:World} {X:List Nat} {L:List Item} {S:ae} {K:Value->World->Prop}
attribute [local irreducible] Run CondV aB aS
theorem Run.pubIx {f:FuncId} {fn:Func} {args:List Value} {l:List Int} (hf:Tryz.prog.funcs[f]?=some fn) (hn:(fn.name == "runtime.NumGoroutine" || fn.body.isNone)=false) (hI:Inv w0 X L S w)
  (hc:Tri Tryz.prog f args [] S fun r I' S'=>I'=[aK r bZ 1 (ixV l)]/\S'=S) (hk:∀ v' S' w',Sle S S'->RdSl S' 1 QK v' l->Inv w0 X L S' w'->K v' w'):Run Tryz.prog (eo (.func (.func f) #[] #[]) args) w K:=by
 refine Run.call0 hf hn hI hc fun v' I' S' w'=>?_
 rintro ⟨rfl,rfl⟩ _ hI
 obtain ⟨S1,hle,hrd,hI,_⟩:=hI.lend
 exact hk _ _ _ hle hrd.ix hI
theorem GD {l:List Int} {u v:Value} (h:RdSl S 1 QK u l) (g:RdSl S 1 QK v l):Pure Tryz.prog K8 [u,v] S (.bool true):=by
 intro w hI
 have hlen:=h.le
 simp only [maxLen] at hlen
 refine Ab.2 ?_
 dsimp only[Ab,aW]
 refine aC h bV ?_
 refine aC g bV ?_
 refine cD ?_
 refine az (fun hb=>by simp at hb) (fun _=>?_)
 refine ⟨fun i w'=>∃ k:Nat,k<=l.length/\i=.int .i64 k/\Inv w [] [] S w',fun i _=>l.length - (intOf i).toNat,⟨0,Nat.zero_le _,rfl,hI⟩,?_⟩
 intro t5 _ _ _ t25 t24 t23 t22 t21 t20 t19 t18 t17 _ _ _ _ w'
 rintro ⟨k,hk,rfl,hI⟩
 refine aC h bV ?_
 refine bq ?_
 refine aI (fun hki=>?_) (fun hki=>done hI rfl)
 have hk':k<l.length:=by omega
 obtain ⟨b,o,cap,c,E,fz,rfl,hS,hR⟩:=h.at_ hk'
 have hR1:aH c (o+k * 1) 1=[.int .i64 l[k]]:=hR
 obtain ⟨b2,o2,cap2,c2,E2,fz2,rfl,hS2,hR2⟩:=g.at_ hk'
 have hR2:aH c2 (o2+k * 1) 1=[.int .i64 l[k]]:=hR2
 refine ⟨fun D fT j4 pw og lR jN lM qZ mO w_=>Fx D 0 [mO=.slice (some ⟨b,o,none⟩) l.length cap,qZ=.int .i64 k,lM=.pointer (some ⟨b,o+k * 1,none⟩),jN=.int .i64 l[k],lR=.slice (some ⟨b2,o2,none⟩) l.length cap2,og=.int .i64 k,pw=.pointer (some ⟨b2,o2+k * 1,none⟩),j4=.int .i64 l[k],fT=.bool false]/\Inv w [] [] S w_,⟨Fx.nil _ _,hI.draw⟩,⟨?_,?_,?_,?_,?_,?_,?_,?_,?_,trivial⟩,?_⟩
 all_goals (intro D bn; intros; rename_i fT j4 pw og lR jN lM qZ mO w_ hA_; have hF_:=hA_.1; obtain ⟨⟨bR,bQ,bG,bS,bU,bB,bD,cq,ci,_⟩,hI⟩:=hA_)
 ·exact ⟨hF_.set 0 rfl,hI⟩
 ·exact ⟨hF_.set 1 rfl,hI⟩
 ·obtain rfl:=bR ‹_›
  obtain rfl:=bQ ‹_›
  refine ar bV hk' ?_
  exact ⟨hF_.set 2 rfl,hI⟩
 ·obtain rfl:=bG ‹_›
  refine ce av (by rw [hI.cellS hS]; exact au hR1 0 _ rfl) ?_
  exact ⟨hF_.set 3 rfl,hI⟩
 ·exact ⟨hF_.set 4 rfl,hI⟩
 ·exact ⟨hF_.set 5 rfl,hI⟩
 ·obtain rfl:=bU ‹_›
  obtain rfl:=bB ‹_›
  refine ar bV hk' ?_
  exact ⟨hF_.set 6 rfl,hI⟩
 ·obtain rfl:=bD ‹_›
  refine ce av (by rw [hI.cellS hS2]; exact au hR2 0 _ rfl) ?_
  exact ⟨hF_.set 7 rfl,hI⟩
 ·obtain rfl:=bS ‹_›
  obtain rfl:=cq ‹_›
  refine cD ?_
  rw [decide_eq_true rfl]
  exact ⟨hF_.set 8 rfl,hI⟩
 obtain ⟨rfl,rfl,rfl,rfl,rfl,rfl,rfl,rfl,rfl,_⟩:=hF_.all
 clear hF_ bR bQ bG bS bU bB bD cq ci
 refine az (fun hb=>by cases hb) (fun _=>?_)
 refine bl (by omega) ?_
 exact ⟨⟨k+1,hk',rfl,hI⟩,by simp [intOf]; omega⟩
end
end
section
open Go Go.RowKit
theorem Lv {q:List T} (h:iQ q=true):q.length<=6:=by
 rw [iQ,Bool.and_eq_true] at h
 have:=h.1
 simp at this
 omega
def LightT (n m:Nat) (q:List T):Prop:=q.length<=n/\∀ t∈q,wT t<=m
theorem LightT.le {n m:Nat} {q:List T} (h:LightT n m q):q.length+wL q<=n+n * m:=by
 have:∀ q:List T,(∀ c∈q,wT c<=m)->wL q<=q.length * m:=by
  intro q
  induction q with
  | nil=>intro _; simp [wL]
  | cons c q ih=>
   intro h
   have h1:=h c (List.mem_cons_self ..)
   have h2:=ih fun d hd=>h d (List.mem_cons_of_mem _ hd)
   simp only [wL,List.length_cons,Nat.succ_mul]
   omega
 have h1:=this q h.2
 have h2:q.length * m<=n * m:=Nat.mul_le_mul_right _ h.1
 have:=h.1
 omega
section
variable {w0 w:World} {X:List Nat} {L A:List Item} {S:ae}
theorem N3 {v:Value} {css:List (List Value)} {q:List T} (hI:Inv w0 X (aK v ab 4 css::A) S w) (hR:Rows 4 (RdT S) css q) :
  ∃ S',Ext w0.heap.size X S S'/\Inv w0 X A S' w/\RdSl S' 4 (RdT S') v q:=by
 have hI:Inv w0 X (A++[aK v ab 4 css]) S w:=hI.last 0 rfl
 obtain ⟨S',hE,hrd,hI⟩:=Inv.lendExt hI
 exact ⟨S',hE,hI,RowRd.rows (hR.monoR fun _ _ h=>RdT.mono hE.1 h) hrd⟩
end
section
variable {br:Nat} {sl:Value} {ys:List Nat} {S:ae}
attribute [local irreducible] Run CondV aB aS
end
end
section
open Go Go.RowKit
def Vq (q:List T):Prop:=iQ q=true/\0<q.length
def Py (s:ByteArray):Bool:=match oi 60 8 (bs s) 0 [] with
 | some (q,n)=>decide (n=s.size) && (iQ q && (decide (wL q<=300) && (decide (s.size<=1000) && decide (0<q.length))))
 | none=>false
theorem N8 {s:ByteArray} (h:Py s=true):∃ q,oi 60 8 (bs s) 0 []=some (q,s.size)/\iQ q=true/\wL q<=300/\s.size<=1000/\0<q.length:=by
 unfold Py at h
 split at h
 ·rename_i q n hq
  simp only [Bool.and_eq_true,decide_eq_true_eq] at h
  obtain ⟨rfl,h2,h3,h4,h5⟩:=h
  exact ⟨q,hq,h2,h3,h4,h5⟩
 ·cases h
abbrev Rd (br:Nat) (sl:Value) (p k n m:Nat):Value->List Item->ae->Prop:=fun v I' S'=>∃ p',p'<=p+k/\I'=[rdI br sl p']/\∃ q,RdSl S' 4 (RdT S') v q/\LightT n m q/\Vq q
section
variable {br:Nat} {sl:Value} {ys:List Nat} {S:ae}
attribute [local irreducible] Run CondV aB aS
theorem l6 {s:ByteArray} (h:Py s=true):Tri Tryz.prog Dq [.string s] [] S fun v I' S'=>I'=[]/\∃ u q,v=.tuple #[u,.bool true]/\RdSl S' 4 (RdT S') u q/\LightT 6 300 q/\Vq q:=by
 intro w hI
 obtain ⟨q,hq,hqv,hqw,hs,hq0⟩:=N8 h
 have hql:=Lv hqv
 have hbs:(bs s).length=s.size:=(kw (bs s)).symm
 refine o6.2 ?_
 dsimp only[o6,aL]
 refine fQ aT ?_
 refine jQ (by omega) ?_
 refine az (fun hb=>by cases hb) (fun _=>?_)
 refine Run.call0E ut wN hI (sd (i:=0) hq (Nat.le_trans (Nat.le_of_eq hbs) (by omega)) (Nat.zero_le _)) fun v I' S1 w'=>?_
 rintro ⟨rfl,u,rfl,hu⟩ hE1 hI
 have hI:Inv w [] [] S1 w':=hI
 refine aj (v:=u) rfl ?_
 refine aj (v:=.int .i64 (s.size:Int)) rfl ?_
 refine ⟨fun t w'=>t=.bool false/\Inv w [] [] S1 w',?_,?_⟩
 ·refine fQ aT ?_
  refine cD ?_
  rw [decide_eq_true rfl]
  refine rpG ?_
  refine Run.callPure Az AL hI (ug hu (by omega)) fun w' hI=>?_
  rw [hqv]
  refine bK ?_
  refine rpG ?_
  exact ⟨rfl,hI⟩
 intro t25 _ _ _ _ _ _ _ _ w'
 rintro ⟨rfl,hI⟩
 refine az (fun hb=>by cases hb) (fun _=>?_)
 refine dD hI bp fun v0 w' hI=>?_
 refine ⟨fun a b w'=>∃ (j:Nat) (S2:ae) (css:List (List Value)),a=.int .i64 (j:Int)/\j<=q.length/\Ext w.heap.size [] S S2/\Sle S1 S2/\Rows 4 (RdT S2) css (q.take j)/\Inv w [] [aK b ab 4 css] S2 w',
  fun a _ _=>q.length - (intOf a).toNat,⟨0,S1,[],rfl,Nat.zero_le _,hE1,Sle.refl _,Rows.nil _ _,hI⟩,?_⟩
 intro t7 _ _ t6 _ _ _ _ _ _ _ _ _ _ _ _ w'
 rintro ⟨j,S2,css,rfl,hj,hE2,hle,hR,hI⟩
 have hu:=hu.monoT hle
 have hcl:=hR.hc
 refine aC hu af ?_
 refine bq ?_
 refine aI (fun hji=>?_) (fun hji=>?_)
 ·have hj':j<q.length:=by omega
  have hm:=lD (List.getElem_mem hj')
  have htk:(q.take j).length=j:=by rw [List.length_take]; omega
  refine bY hI hu af ac hj' (fun _ _=>RdT.length) fun cs hcs=>?_
  refine Run.call0E eh er hI (eL _ S2 cs hcs (by omega)) fun v' I' S3 w'=>?_
  rintro ⟨rfl,ds,M,rfl,rfl,hT⟩ hE3 hI
  obtain ⟨S3,hI,hE3,hins⟩:=hI.pubExt
  have hr3:=hT.rd hins
  refine dZ (css:=css) hI 0 ds bp (by omega) (by omega) rfl hr3.length hr3.one (by omega) (by omega) fun v' w' hI=>?_
  refine bl (by omega) ?_
  exact ⟨⟨j+1,S3,_,rfl,hj',hE2.trans hE3,hle.trans hE3.1,by rw [List.take_succ_eq_append_getElem hj']; exact (hR.monoR fun _ _ h=>RdT.mono hE3.1 h).snoc hr3 hr3.length,hI⟩,by simp [intOf]; omega⟩
 ·have:j=q.length:=by omega
  subst this
  rw [List.take_length] at hR
  obtain ⟨S3,hE3,hI,hr⟩:=N3 hI hR
  exact ⟨_,[],S3,rfl,hI,hE2.trans hE3,rfl,_,q,rfl,hr,⟨hql,fun t ht=>by have:=lD ht; omega⟩,hqv,hq0⟩
theorem yG (S:ae):Tri Tryz.prog EB [] [] S fun v I' S'=>I'=[]/\∃ l,RdSl S' 1 oh v l/\0<l.length/\l.all Py=true:=by
 intro w hI
 refine pW.2 ?_
 dsimp only[pW,sk]
 refine fe hI (by kernel_rfl) rfl (by omega) fun v S1 w' hE1 hv hI=>?_
 exact ⟨_,[],S1,rfl,hI,hE1,rfl,_,hv,by decide,by decide +kernel⟩
theorem Ct {p:Nat} (hrd:RdSl S 1 iR sl ys) (hp:p<=100000000):Tri Tryz.prog IO [rdP br] [rdI br sl p] S (Rd br sl p 1 6 300):=by
 intro w hI
 refine uQ.2 ?_
 dsimp only[uQ,aL]
 refine Run.call0E Bl Bx hI (yG S) fun v' I' S1 w'=>?_
 rintro ⟨rfl,l,hl,hl0,hok⟩ hE1 hI
 have hI:Inv w [br] [rdI br sl p] S1 w':=hI
 refine aC hl cg ?_
 refine Run.callL bP bN hI (cY (n:=l.length) (hrd.monoU hE1.1) (by omega) hl0) rfl fun v' I' S1 w'=>?_
 rintro ⟨rfl,rfl,k,hk,rfl⟩ _ hI
 have hI:Inv w [br] [rdI br sl (p+1)] S1 w':=hI
 refine fy hI hl cg aJ hk (fun cs hcs=>hcs) ?_
 rw [List.all_eq_true] at hok
 refine Run.call0E oU pi hI (l6 (hok _ (List.getElem_mem hk))) fun v I' S2 w'=>?_
 rintro ⟨rfl,u,q,rfl,hu,hq⟩ hE2 hI
 refine aj (v:=u) rfl ?_
 refine aj (v:=.bool true) rfl ?_
 exact ⟨_,_,S2,rfl,hI,hE1.trans hE2,p+1,Nat.le_refl _,rfl,q,hu,hq⟩
abbrev Qi (br:Nat) (sl:Value) (p k:Nat):Value->List Item->ae->Prop:=fun v I' S'=>∃ p',p'<=p+k/\I'=[rdI br sl p']/\∃ u g ps q,v=.tuple #[u,g]/\RdSl S' 5 (RdC S') u ps/\Light 8 200 ps/\0<ps.length/\(∀ c∈ps,cC c=true)/\RdSl S' 4 (RdT S') g q/\LightT 6 300 q/\Vq q
theorem DD {p:Nat} (hrd:RdSl S 1 iR sl ys) (hp:p<=10000000):Tri Tryz.prog LU [rdP br] [rdI br sl p] S (Qi br sl p 5):=by
 intro w hI
 refine z6.2 ?_
 dsimp only[z6,aL]
 refine Run.call0E u5 vL hI (sL S) fun v' I' S1 w'=>?_
 rintro ⟨rfl,l,hl,hl11,hok⟩ hE1 hI
 have hI:Inv w [br] [rdI br sl p] S1 w':=hI
 refine aC hl cg ?_
 refine Run.callL bP bN hI (cY (n:=l.length) (hrd.monoU hE1.1) (by omega) (by omega)) rfl fun v' I' S1 w'=>?_
 rintro ⟨rfl,rfl,k,hk,rfl⟩ _ hI
 have hI:Inv w [br] [rdI br sl (p+1)] S1 w':=hI
 refine fy hI hl cg aJ hk (fun cs hcs=>hcs) ?_
 rw [List.all_eq_true] at hok
 refine Run.call0E mf l8 hI (Ff (hok _ (List.getElem_mem hk))) fun v I' S2 w'=>?_
 rintro ⟨u,css,ps,rfl,rfl,hR,h0,hps,hpv⟩ hE2 hI
 have hI:Inv w [br] [aK u aw 5 css,rdI br sl (p+1)] S2 w':=hI.last 0 rfl
 obtain ⟨T0,hE3,hI,hr⟩:=qA hI hR
 refine aj (v:=u) rfl ?_
 refine aj (v:=.bool true) rfl ?_
 have F0:Ext w.heap.size [br] S T0:=(hE1.trans hE2).trans hE3
 refine fe hI (by kernel_rfl) rfl (by omega) fun v1 T1 w' G1 h1 hI=>?_
 have F1:=F0.trans G1
 refine fe hI (by kernel_rfl) rfl (by omega) fun v2 T2 w' G2 h2 hI=>?_
 have F2:=F1.trans G2
 refine fe hI (by kernel_rfl) rfl (by omega) fun v3 T3 w' G3 h3 hI=>?_
 have F3:=F2.trans G3
 refine fe hI (by kernel_rfl) rfl (by omega) fun v4 T4 w' G4 h4 hI=>?_
 have F4:=F3.trans G4
 refine fe hI (by kernel_rfl) rfl (by omega) fun v5 T5 w' G5 h5 hI=>?_
 have F5:=F4.trans G5
 refine fe hI (by kernel_rfl) rfl (by omega) fun v6 T6 w' G6 h6 hI=>?_
 have F6:=F5.trans G6
 refine fe hI (by kernel_rfl) rfl (by omega) fun v7 T7 w' G7 h7 hI=>?_
 have F7:=F6.trans G7
 refine fe hI (by kernel_rfl) rfl (by omega) fun v8 T8 w' G8 h8 hI=>?_
 have F8:=F7.trans G8
 refine fe hI (by kernel_rfl) rfl (by omega) fun v9 T9 w' G9 h9 hI=>?_
 have F9:=F8.trans G9
 refine fe hI (by kernel_rfl) rfl (by omega) fun v10 T10 w' G10 h10 hI=>?_
 have F10:=F9.trans G10
 refine fe hI (by kernel_rfl) rfl (by omega) fun v11 T11 w' G11 h11 hI=>?_
 have F11:=F10.trans G11
 refine rg (v:=fun b=>.slice (some ⟨b,0,none⟩) 11 11) (o:=.cells #[v1,v2,v3,v4,v5,v6,v7,v8,v9,v10,v11] xK) hI ?_ fun b w' hI=>?_
 ·obtain ⟨a1,c1,rfl,_⟩:=id h1; obtain ⟨a2,c2,rfl,_⟩:=id h2; obtain ⟨a3,c3,rfl,_⟩:=id h3; obtain ⟨a4,c4,rfl,_⟩:=id h4; obtain ⟨a5,c5,rfl,_⟩:=id h5; obtain ⟨a6,c6,rfl,_⟩:=id h6; obtain ⟨a7,c7,rfl,_⟩:=id h7; obtain ⟨a8,c8,rfl,_⟩:=id h8; obtain ⟨a9,c9,rfl,_⟩:=id h9; obtain ⟨a10,c10,rfl,_⟩:=id h10; obtain ⟨a11,c11,rfl,_⟩:=id h11; kernel_rfl
 obtain ⟨T12,hI,G12,hS⟩:=Inv.pub1 (A:=[rdI br sl (p+1)]) hI
 have F12:=F11.trans G12
 have L11:=G12.1
 have L10:=G11.1.trans L11
 have L9:=G10.1.trans L10
 have L8:=G9.1.trans L9
 have L7:=G8.1.trans L8
 have L6:=G7.1.trans L7
 have L5:=G6.1.trans L6
 have L4:=G5.1.trans L5
 have L3:=G4.1.trans L4
 have L2:=G3.1.trans L3
 have L1:=G2.1.trans L2
 have hsel:∃ v l,(#[v1,v2,v3,v4,v5,v6,v7,v8,v9,v10,v11]:Array Value)[0+k * 1]?=some v/\RdSl T12 1 oh v l/\0<l.length/\l.all Py=true:=by
  have hk:k<11:=by omega
  match k,hk with
  | 0,_=>exact ⟨v1,_,rfl,h1.monoS L1,by decide,by decide +kernel⟩
  | 1,_=>exact ⟨v2,_,rfl,h2.monoS L2,by decide,by decide +kernel⟩
  | 2,_=>exact ⟨v3,_,rfl,h3.monoS L3,by decide,by decide +kernel⟩
  | 3,_=>exact ⟨v4,_,rfl,h4.monoS L4,by decide,by decide +kernel⟩
  | 4,_=>exact ⟨v5,_,rfl,h5.monoS L5,by decide,by decide +kernel⟩
  | 5,_=>exact ⟨v6,_,rfl,h6.monoS L6,by decide,by decide +kernel⟩
  | 6,_=>exact ⟨v7,_,rfl,h7.monoS L7,by decide,by decide +kernel⟩
  | 7,_=>exact ⟨v8,_,rfl,h8.monoS L8,by decide,by decide +kernel⟩
  | 8,_=>exact ⟨v9,_,rfl,h9.monoS L9,by decide,by decide +kernel⟩
  | 9,_=>exact ⟨v10,_,rfl,h10.monoS L10,by decide,by decide +kernel⟩
  | 10,_=>exact ⟨v11,_,rfl,h11.monoS L11,by decide,by decide +kernel⟩
 obtain ⟨vk,lk,hcell,hlk,hlk0,hokq⟩:=hsel
 refine ar (k:=1) I7 (by omega) ?_
 refine ce KY ((hI.cellS hS).trans hcell) ?_
 refine Run.callL bP bN hI (cY (n:=5) (hrd.monoU F12.1) (by omega) (by omega)) rfl fun v' I' S3 w'=>?_
 rintro ⟨rfl,rfl,k5,hk5,rfl⟩ _ hI
 have hI:Inv w [br] [rdI br sl (p+2)] S3 w':=hI
 have hr:=hr.monoC (G1.1.trans L1)
 refine aZ ?_
 refine aI (fun _=>?_) (fun _=>?_)
 ·refine Run.callL GF HB hI (Ct (hrd.monoU F12.1) (by omega)) rfl fun v' I' S4 w'=>?_
  rintro ⟨p3,hp3,rfl,q,hq,hlq⟩ hE4 hI
  exact ⟨_,_,S4,rfl,hI,F12.trans hE4,p3,by omega,rfl,_,_,ps,q,rfl,hr.monoC hE4.1,hps,h0,hpv,hq,hlq⟩
 ·refine aC hlk cg ?_
  refine Run.callL bP bN hI (cY (n:=lk.length) (hrd.monoU F12.1) (by omega) hlk0) rfl fun v' I' S3 w'=>?_
  rintro ⟨rfl,rfl,k6,hk6,rfl⟩ _ hI
  have hI:Inv w [br] [rdI br sl (p+3)] S3 w':=hI
  refine fy hI hlk cg aJ hk6 (fun cs hcs=>hcs) ?_
  rw [List.all_eq_true] at hokq
  refine Run.call0E oU pi hI (l6 (hokq _ (List.getElem_mem hk6))) fun v I' S4 w'=>?_
  rintro ⟨rfl,g,q,rfl,hg,hlq⟩ hE4 hI
  refine aj (v:=g) rfl ?_
  refine aj (v:=.bool true) rfl ?_
  exact ⟨_,_,S4,rfl,hI,F12.trans hE4,p+3,by omega,rfl,u,g,ps,q,rfl,hr.monoC hE4.1,hps,h0,hpv,hg,hlq⟩
end
end
section
open Go Go.RowKit
def ld:List Int->Int->Int
 | [],m=>m
 | x::xs,m=>ld xs (if m<=x then x+1 else m)
def iW (c:C):Int:=ld (df (c.head::c.body) []) 0
theorem yH:∀ (l:List Int) (m:Int),m<=ld l m/\∀ x∈l,x<ld l m
 | [],m=>⟨Int.le_refl _,fun _ h=>by cases h⟩
 | y::l,m=>by
  have hm:m<=(if m<=y then y+1 else m)/\y<(if m<=y then y+1 else m):=by split <;> omega
  rw [ld]
  generalize (if m<=y then y+1 else m)=m' at hm ⊢
  obtain ⟨h1,h2⟩:=yH l m'
  refine ⟨by omega,fun x hx=>?_⟩
  rcases List.mem_cons.1 hx with rfl|hx
  ·omega
  ·exact h2 x hx
theorem E8 (N:Int):∀ (l:List Int) (m:Int),m<=N->(∀ x∈l,x<N)->ld l m<=N
 | [],m,h,_=>h
 | y::l,m,h,hx=>by
  rw [ld]
  refine E8 N l _ ?_ fun x h=>hx x (List.mem_cons_of_mem _ h)
  have:=hx y (List.mem_cons_self ..)
  split <;> omega
section
attribute [local irreducible] Run CondV aB aS
theorem Gr {ts:List T} {S:ae} {v:Value} (h:RdSl S 4 (RdT S) v ts) (hw:ts.length+wL ts<=1048577):Tri Tryz.prog K4 [v] [] S (IU S (df ts [])):=by
 intro w hI
 have hlen:=h.le
 simp only [maxLen] at hlen
 have hcl:=HX ts
 refine zD.2 ?_
 dsimp only[zD,aL]
 refine dD hI ip fun v0 w' hI=>?_
 refine ⟨fun i t w'=>∃ (j:Nat) (l:List Int),j<=ts.length/\i=.int .i64 j/\df (ts.drop j) l=df ts []/\l.length+dd (ts.drop j)<=3000000/\Inv w [] [ed t l] S w',
  fun i _ _=>ts.length - (intOf i).toNat,⟨0,[],Nat.zero_le _,rfl,rfl,by simp only [List.drop_zero,List.length_nil]; omega,hI⟩,?_⟩
 intro t4 _ _ t3 _ _ _ _ _ _ _ _ _ _ w'
 rintro ⟨j,l,hj,rfl,hvs,hl,hI⟩
 refine aC h af ?_
 refine bq ?_
 refine aI (fun hji=>?_) (fun hji=>?_)
 ·have hj':j<ts.length:=by omega
  rw [tQ ts j hj'] at hl
  rw [Ip ts j hj'] at hvs
  have hc1:=dX (ts.drop (j+1))
  have hc2:=nu ts[j] l
  refine bY hI h af ac hj' (fun _ _=>RdT.length) fun cs' hcs'=>?_
  refine Run.call (A:=[]) jK jA hI (km _ S cs' t3 l hcs' (by omega)) fun v' I' S' w'=>?_
  rintro ⟨rfl,rfl⟩ _ hI
  refine bl (by omega) ?_
  exact ⟨⟨j+1,_,hj',rfl,hvs,by omega,hI⟩,by simp [intOf]; omega⟩
 have:j=ts.length:=by omega
 subst this
 rw [List.drop_length,df] at hvs
 subst hvs
 exact ⟨_,_,_,rfl,hI,Ext.refl _ _ _,rfl,rfl⟩
theorem DJ {c:C} {S:ae} {cs:List Value} (h:RdC S cs c) (hw:wC c<=1048576) (hx:∀ x∈df (c.head::c.body) [],0<=x/\x<1000000) :
  Pure Tryz.prog JW [.agg cs.toArray] S (.int .i64 (iW c)):=by
 intro w hI
 obtain ⟨hd,ks,rfl,h1,h2⟩:=h
 have h1':=h1
 obtain ⟨kv,rfl,g1,g2,g3,g4⟩:=RdT.iff.1 h1
 have hlen:=h2.le
 simp only [maxLen] at hlen
 unfold wC at hw
 refine vx.2 ?_
 dsimp only[vx,aL]
 refine bf hI fun b1 w' hI=>?_
 refine ai cG ?_
 refine b0 hI 0 [.int .i64 c.head.kind,.int .i64 c.head.n,.string c.head.name,kv] ac rfl rfl Jk ?_
 refine dT hI bp (by simp [Value.cells]) (by omega) (by omega) fun b7 w' hI=>?_
 refine ad hI 0 rfl bm ah rfl ?_
 have hI:=Inv.closeRow (A:=[_]) (cap:=1) (k:=4) (n:=1) hI (by omega) (by simp [maxLen]) (by simp [Value.cells])
 refine eB hI 1 (css:=[[.int .i64 c.head.kind,.int .i64 c.head.n,.string c.head.name,kv]]) bp (by omega) rfl h2 (fun _ _=>RdT.length) (fun _ _=>RdT.one) (by simp; omega) (by omega) fun v' w' css2 hR hI=>?_
 have hR:=(Rows.one h1' h1'.length).append hR
 obtain ⟨S1,hle1,hrd,hI,_⟩:=Inv.lend (A:=[_]) hI
 have hts:RdSl S1 4 (RdT S1) v' (c.head::c.body):=(RowRd.rows hR hrd).mono (Sle.refl _) fun _ _ h=>h.mono hle1
 refine Run.call0 J9 Ie hI (Gr hts (by simp only [wL,List.length_cons]; omega)) fun v11 I' S' w'=>?_
 rintro ⟨rfl,rfl⟩ _ hI
 rw [iW]
 generalize df (c.head::c.body) []=vs at hI hx ⊢
 obtain ⟨S2,hle2,hrd,hI,_⟩:=Inv.lend (A:=[_]) hI
 have hrd:=hrd.ints
 have hvl:=hrd.le
 simp only [maxLen] at hvl
 refine ⟨fun i t w'=>∃ (j:Nat) (m:Int),j<=vs.length/\i=.int .i64 j/\t=.int .i64 m/\ld (vs.drop j) m=ld vs 0/\Inv w [] [.blk b1 (.cells #[.int .i64 c.head.kind,.int .i64 c.head.n,.string c.head.name,kv,ks] aw)] S2 w',
  fun i _ _=>vs.length - (intOf i).toNat,⟨0,0,Nat.zero_le _,rfl,rfl,rfl,hI⟩,?_⟩
 intro t5 _ _ t4 _ _ _ _ _ _ _ _ _ _ _ _ _ _ _ w'
 rintro ⟨j,m,hj,rfl,rfl,hvs,hI⟩
 refine aC hrd bV ?_
 refine bq ?_
 refine aI (fun hji=>?_) (fun hji=>?_)
 ·have hj':j<vs.length:=by omega
  obtain ⟨hx0,hx1⟩:=hx _ (List.getElem_mem hj')
  rw [List.drop_eq_getElem_cons hj',ld] at hvs
  refine ⟨fun t w'=>t=.int .i64 (if m<=vs[j] then vs[j]+1 else m)/\Inv w [] [.blk b1 (.cells #[.int .i64 c.head.kind,.int .i64 c.head.n,.string c.head.name,kv,ks] aw)] S2 w',?_,?_⟩
  ·refine fy hI hrd bV av hj' (fun cs hcs=>hcs) ?_
   refine fw ?_
   refine aI (fun he=>?_) (fun he=>?_)
   ·refine fy hI hrd bV av hj' (fun cs hcs=>hcs) ?_
    refine bl (by omega) ?_
    exact ⟨by rw [if_pos (by omega)],hI⟩
   ·exact ⟨by rw [if_neg (by omega)],hI⟩
  intro t4' _ _ _ _ _ _ _ _ _ _ _ w'
  rintro ⟨rfl,hI⟩
  refine bl (by omega) ?_
  exact ⟨⟨j+1,_,hj',rfl,rfl,hvs,hI⟩,by simp [intOf]; omega⟩
 have:j=vs.length:=by omega
 subst this
 rw [List.drop_length,ld] at hvs
 subst hvs
 exact ⟨rfl,((hI.less hle2).less hle1).pick [false]⟩
end
end
section
open Go Go.RowKit
def RdG (S:ae) (cs:List Value) (g:T × Int):Prop:=∃ hd,cs=hd++[.int .i64 g.2]/\RdT S hd g.1
theorem RdG.length {S:ae} {cs:List Value} {g:T × Int} (h:RdG S cs g):cs.length=5:=by
 obtain ⟨hd,rfl,h⟩:=h; simp [h.length]
theorem RdG.one {S:ae} {cs:List Value} {g:T × Int} (h:RdG S cs g):∀ u∈cs,u.oneCell'=true:=by
 obtain ⟨hd,rfl,h⟩:=h
 intro u hu
 rcases List.mem_append.1 hu with hu|hu
 ·exact h.one u hu
 ·rw [List.mem_singleton] at hu; subst hu; rfl
theorem RdG.mono {S S':ae} {cs:List Value} {g:T × Int} (hs:Sle S S') (h:RdG S cs g):RdG S' cs g:=by
 obtain ⟨hd,rfl,h⟩:=h; exact ⟨hd,rfl,h.mono hs⟩
theorem RdSl.monoG {S S':ae} {v:Value} {gs:List (T × Int)} (hs:Sle S S') (h:RdSl S 5 (RdG S) v gs):RdSl S' 5 (RdG S') v gs:=h.mono hs fun _ _=>RdG.mono hs
section
variable {w:World} {K:Value->World->Prop}
attribute [local irreducible] Run
theorem Jl {a b k:Int} {s:ByteArray} {x:Value} (hk:K (.agg #[.int .i64 a,.int .i64 b,.string s,x,.int .i64 k]) w) :
  Run Tryz.prog (bX iU [(0,.agg #[.int .i64 a,.int .i64 b,.string s,x]),(1,.int .i64 k)]) w K:=by
 refine Run.of (v:=.agg #[.int .i64 a,.int .i64 b,.string s,x,.int .i64 k]) (w':=w) ?_ hk
 unfold bX
 rw [Sem.run_bind,run_build w iU _ #[.int .i64 a,.int .i64 b,.string s,x,.int .i64 k] (by kernel_rfl),Result.andThen_ok]
 rfl
end
section
attribute [local irreducible] Run CondV aB aS
abbrev OP (gs:List (T × Int)):Value->List Item->ae->Prop:=fun q I' S'=>I'=[]/\RdSl S' 5 (RdG S') q gs
theorem sN {N:Nat} (hN:N<=1000000) (m:Int) (hm0:0<=m) (hm1:m<=1000000) (k:Int) {ts:List T} {rest:List (T × Int)} {S:ae} {v vr:Value} (h:RdSl S 4 (RdT S) v ts) (hr:RdSl S 5 (RdG S) vr rest)
  (ho:∀ t∈ts,okU N t/\wT t<=1048576) (hl:ts.length<=1000000) (hlr:rest.length<=1000000000) :
  Tri Tryz.prog Ad [v,.int .i64 m,.int .i64 k,vr] [] S (OP (ts.map (fun t=>(cK m t,k))++rest)):=by
 intro w hI
 refine wE.2 ?_
 dsimp only[wE,tj]
 refine dD hI qr fun v0 w' hI=>?_
 refine ⟨fun i t w'=>∃ (j:Nat) (css:List (List Value)) (S1:ae),j<=ts.length/\i=.int .i64 j/\Ext w.heap.size [] S S1/\Rows 5 (RdG S1) css ((ts.take j).map (fun t=>(cK m t,k)))/\Inv w [] [aK t iU 5 css] S1 w',
  fun i _ _=>ts.length - (intOf i).toNat,⟨0,[],S,Nat.zero_le _,rfl,Ext.refl _ _ _,Rows.nil _ _,hI⟩,?_⟩
 intro t10 _ _ t9 _ _ _ _ _ _ _ _ _ _ _ _ _ _ _ w'
 rintro ⟨j,css,S1,hj,rfl,hE,hR,hI⟩
 have hcl:=hR.hc
 rw [List.length_map,List.length_take,Nat.min_eq_left hj] at hcl
 refine aC h af ?_
 refine bq ?_
 refine aI (fun hji=>?_) (fun hji=>?_)
 ·have hj':j<ts.length:=by omega
  obtain ⟨ho1,ho2⟩:=ho _ (List.getElem_mem hj')
  refine bY hI (h.monoT hE.1) af ac hj' (fun _ _=>RdT.length) fun cs hcs=>?_
  refine Run.call0E oq oN hI (s6 hN m hm0 hm1 _ S1 cs hcs ho1 ho2) fun v' I' S' w'=>?_
  rintro ⟨eS,cs',L,rfl,rfl,hT⟩ _ hI
  rw [eS] at hI
  obtain ⟨S2,hI,hE2,hins⟩:=hI.pubExt
  have hrd:=hT.rd hins
  have hrd0:=hrd
  obtain ⟨kv,rfl,_⟩:=RdT.iff.1 hrd
  refine Jl ?_
  have hG:RdG S2 [.int .i64 (cK m ts[j]).kind,.int .i64 (cK m ts[j]).n,.string (cK m ts[j]).name,kv,.int .i64 k] (cK m ts[j],k):=⟨_,rfl,hrd0⟩
  refine dZ hI 0 [.int .i64 (cK m ts[j]).kind,.int .i64 (cK m ts[j]).n,.string (cK m ts[j]).name,kv,.int .i64 k] qr (by omega) (by omega) rfl rfl hG.one (by omega) (by omega) fun v' w' hI=>?_
  refine bl (by omega) ?_
  refine ⟨⟨j+1,_,S2,hj',rfl,hE.trans hE2,?_,hI⟩,by simp [intOf]; omega⟩
  rw [List.take_succ_eq_append_getElem hj',List.map_append]
  exact (hR.monoR fun _ _ h=>h.mono hE2.1).snoc hG rfl
 have:j=ts.length:=by omega
 subst this
 rw [List.take_length] at hR
 refine eB hI 0 (css:=css) qr (by omega) rfl (hr.monoG hE.1) (fun _ _=>RdG.length) (fun _ _=>RdG.one) (by omega) (by omega) fun v' w' css2 hR2 hI=>?_
 obtain ⟨S3,hE3,hrd,hI⟩:=Inv.lendExt (A:=[]) hI
 exact ⟨_,_,_,rfl,hI,hE.trans hE3,rfl,RowRd.rows ((hR.append hR2).monoR fun _ _ h=>h.mono hE3.1) hrd⟩
end
end
section
open Go Go.RowKit
structure Ch where
 goal:T
 rest:List (T × Int)
 left:List Int
 binds:aF
structure St6 where
 goals:List (T × Int)
 binds:aF
 chs:List Ch
def RdCh (S:ae) (cs:List Value) (c:Ch):Prop:=∃ hd g l b,cs=hd++[g,l,b]/\RdT S hd c.goal/\RdSl S 5 (RdG S) g c.rest/\RdSl S 1 ik l c.left/\RdSl S 4 (RdO S) b c.binds
theorem RdSl.sl {α:Type} {S:ae} {k:Nat} {R:List Value->α->Prop} {v:Value} {xs:List α} (h:RdSl S k R v xs):v.oneCell'=true:=by
 obtain ⟨a,m,rfl,_⟩:=h; rfl
theorem RdSl.monoO {S S':ae} {v:Value} {st:aF} (hs:Sle S S') (h:RdSl S 4 (RdO S) v st):RdSl S' 4 (RdO S') v st:=h.mono hs fun _ _=>RdO.mono hs
theorem RdCh.length {S:ae} {cs:List Value} {c:Ch} (h:RdCh S cs c):cs.length=7:=by
 obtain ⟨hd,g,l,b,rfl,h,_⟩:=h; simp [h.length]
theorem RdCh.one {S:ae} {cs:List Value} {c:Ch} (h:RdCh S cs c):∀ u∈cs,u.oneCell'=true:=by
 obtain ⟨hd,g,l,b,rfl,h,h1,h2,h3⟩:=h
 intro u hu
 rcases List.mem_append.1 hu with hu|hu
 ·exact h.one u hu
 ·simp only [List.mem_cons,List.not_mem_nil,or_false] at hu
  rcases hu with rfl|rfl|rfl
  ·exact h1.sl
  ·exact h2.sl
  ·exact h3.sl
theorem RdCh.mono {S S':ae} {cs:List Value} {c:Ch} (hs:Sle S S') (h:RdCh S cs c):RdCh S' cs c:=by
 obtain ⟨hd,g,l,b,rfl,h,h1,h2,h3⟩:=h
 exact ⟨hd,g,l,b,rfl,h.mono hs,h1.monoG hs,h2.mono hs fun _ _ h=>h,h3.monoO hs⟩
theorem RdSl.monoCh {S S':ae} {v:Value} {cs:List Ch} (hs:Sle S S') (h:RdSl S 7 (RdCh S) v cs):RdSl S' 7 (RdCh S') v cs:=h.mono hs fun _ _=>RdCh.mono hs
def RdS6 (S:ae) (cs:List Value) (s:St6):Prop:=∃ g b c,cs=[g,b,c]/\RdSl S 5 (RdG S) g s.goals/\RdSl S 4 (RdO S) b s.binds/\RdSl S 7 (RdCh S) c s.chs
theorem RdS6.length {S:ae} {cs:List Value} {s:St6} (h:RdS6 S cs s):cs.length=3:=by
 obtain ⟨g,b,c,rfl,_⟩:=h; rfl
theorem RdS6.one {S:ae} {cs:List Value} {s:St6} (h:RdS6 S cs s):∀ u∈cs,u.oneCell'=true:=by
 obtain ⟨g,b,c,rfl,h1,h2,h3⟩:=h
 intro u hu
 simp only [List.mem_cons,List.not_mem_nil,or_false] at hu
 rcases hu with rfl|rfl|rfl
 ·exact h1.sl
 ·exact h2.sl
 ·exact h3.sl
theorem RdS6.mono {S S':ae} {cs:List Value} {s:St6} (hs:Sle S S') (h:RdS6 S cs s):RdS6 S' cs s:=by
 obtain ⟨g,b,c,rfl,h1,h2,h3⟩:=h
 exact ⟨g,b,c,rfl,h1.monoG hs,h2.monoO hs,h3.monoCh hs⟩
theorem RdSl.nil0 {α:Type} (S:ae) (k:Nat) (R:List Value->α->Prop):RdSl S k R (.slice none 0 0) []:=⟨none,0,rfl,Nat.le_refl _,Nat.zero_le _,.inl rfl⟩
section
variable {w:World} {K:Value->World->Prop}
attribute [local irreducible] Run
theorem Ed {a:Option Addr} {n m:Nat} (hk:K (.agg #[.slice none 0 0,.slice a n m,.slice none 0 0]) w) :
  Run Tryz.prog (bX bM [(1,.slice a n m)]) w K:=by
 refine Run.of (v:=.agg #[.slice none 0 0,.slice a n m,.slice none 0 0]) (w':=w) ?_ hk
 unfold bX
 rw [Sem.run_bind,run_build w bM _ #[.slice none 0 0,.slice a n m,.slice none 0 0] (by kernel_rfl),Result.andThen_ok]
 rfl
end
section
attribute [local irreducible] Run CondV aB aS
abbrev RU (s:St6):Value->List Item->ae->Prop:=fun q I' S'=>I'=[]/\∃ cs,q=.agg cs.toArray/\RdS6 S' cs s
theorem DF {ts:List T} {S:ae} {v:Value} (h:RdSl S 4 (RdT S) v ts) (ho:∀ t∈ts,okU 26 t/\wT t<=1048576) (hl:ts.length<=1000000) :
  Tri Tryz.prog In [v] [] S (RU ⟨ts.map (fun t=>(cK 0 t,0)),List.replicate 26 none,[]⟩):=by
 intro w hI
 refine vl.2 ?_
 dsimp only[vl,aL]
 refine aD hI gg fun b2 w' hI=>?_
 refine ki (n:=26) hI bp (by omega) (by omega) (by omega) fun kb w' hI=>?_
 have hk:=KnU.zero _ rfl S 26
 obtain ⟨S1,hI,hE,hkb⟩:=Inv.pub1 (A:=[_]) hI
 have hkr:RdSl S1 4 (RdO S) (.slice (some ⟨kb,0,none⟩) 26 26) (List.replicate 26 none):=hk.rd (cap:=26) hkb (by simp) (by simp [maxLen])
 refine Ed ?_
 refine aD hI gg fun b3 w' hI=>?_
 have hI:Inv w [] [.blk b2 (.cells #[.slice none 0 0,.slice none 0 0,.slice none 0 0] bM),.blk b3 (.cells #[.slice none 0 0,.slice none 0 0,.slice none 0 0] bM)] S1 w':=hI
 refine aq hI 1 rfl bW rfl rfl (by simp [Value.oneCell']) fun w' hI=>?_
 refine Run.call0E vY vD hI (sN (N:=26) (by omega) 0 (by omega) (by omega) 0 (h.monoT hE.1) (RdSl.nil0 ..) ho hl (by simp)) fun v' I' S2 w'=>?_
 rintro ⟨rfl,hg⟩ hE2 hI
 rw [List.append_nil] at hg
 obtain ⟨ga,gm,rfl,_⟩:=id hg
 have hI:Inv w [] [.blk b2 (.cells #[.slice none 0 0,.slice none 0 0,.slice none 0 0] bM),.blk b3 (.cells #[.slice none 0 0,.slice (some ⟨kb,0,none⟩) 26 26,.slice none 0 0] bM)] S2 w':=hI
 refine cJ hI 1 rfl fK fm rfl rfl rfl fun w' hI=>?_
 refine ao hI 1 bW rfl rfl ?_
 refine aq hI 0 rfl bW rfl rfl (by simp [Value.oneCell']) fun w' hI=>?_
 refine aU hI 0 bW rfl rfl ?_
 exact ⟨_,_,_,rfl,hI.pick [false,false],hE.trans hE2,rfl,_,rfl,_,_,_,rfl,hg,(hkr.mono hE2.1 fun _ _ h=>RdO.mono (hE.1.trans hE2.1) h),RdSl.nil0 ..⟩
end
end
end Go.Proofs.YtfcbhfjomgopbaaGreat
