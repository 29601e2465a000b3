/- The reference's TermValid and what it calls. -/
import Derived.Test.YtfcbhfjomgopbaaGreatZFu0
import Derived.Test.YtfcbhfjomgopbaaGreatZFuF
import Derived.Test.YtfcbhfjomgopbaaGreatZFugz
namespace Go.Proofs.YtfcbhfjomgopbaaGreat
section
open Go Go.RowKit
attribute [local irreducible] Run CondV aB aS

theorem Da {α:Type} (p:α->Bool) (l:List α) (k:Nat) (h:k<l.length):(l.drop k).all p=(p l[k] && (l.drop (k+1)).all p):=by
 rw [List.drop_eq_getElem_cons h,List.all_cons]
theorem IZ {α:Type} (p:α->Bool) (l:List α) (k:Nat) (h:k<l.length):(l.drop k).any p=(p l[k] || (l.drop (k+1)).any p):=by
 rw [List.drop_eq_getElem_cons h,List.any_cons]
theorem nV (s:ByteArray):s.data.toList.length=s.size:=by rw [Array.length_toList]; rfl
theorem Kt (s:ByteArray) (k:Nat) (h:k<s.size):s.data.toList[k]'(by rw [nV]; exact h)=s[k]:=rfl

theorem wJ (s:ByteArray) (hs:s.size<=maxLen) (S:ae):Pure Tryz.prog Lr [.string s] S (.bool (mt s)):=by
 intro w hI
 simp only [maxLen] at hs
 refine zM.2 ?_
 dsimp only[zM,aL]
 refine ⟨fun i w'=>∃ k:Nat,k<=s.size/\i=.int .i64 k/\(s.data.toList.drop k).all qy=qB s/\Inv w [] [] S w',fun i _=>s.size - (intOf i).toNat,⟨0,Nat.zero_le _,rfl,rfl,hI⟩,?_⟩
 intro t3 _ _ _ _ _ _ _ _ _ _ _ _ _ _ _ _ _ w'
 rintro ⟨k,hk,rfl,hrel,hI⟩
 refine fQ aT ?_
 refine bq ?_
 refine aI (fun hki=>?_) (fun hki=>?_)
 ·have hk':k<s.size:=by omega
  have hstep:=Da qy s.data.toList k (by rw [nV]; exact hk')
  rw [Kt s k hk'] at hstep
  refine ⟨fun t w'=>t=.bool (!qy s[k])/\Inv w [] [] S w',?_,?_⟩
  ·refine kT aT hk' ?_
   refine bq ?_
   refine uG (fun h=>⟨?_,hI⟩) (fun h=>?_)
   ·have h:=of_decide_eq_true h
    rw [qy,decide_eq_false (show ¬ 97<=s[k].toNat by omega)]; rfl
   ·refine kT aT hk' ?_
    refine dl ?_
    refine nt h ⟨?_,hI⟩
    have h:=of_decide_eq_false h
    rw [qy,decide_eq_true (show 97<=s[k].toNat by omega),Bool.true_and]
    by_cases h2:s[k].toNat<=122
    ·rw [decide_eq_true h2,decide_eq_false (by omega)]; rfl
    ·rw [decide_eq_false h2,decide_eq_true (by omega)]; rfl
  intro t _ _ _ _ _ _ _ _ _ w'
  rintro ⟨rfl,hI⟩
  refine az (fun h=>done hI ?_) (fun h=>?_)
  ·simp at h
   rw [mt,<- hrel,hstep,h]; rfl
  ·simp at h
   refine bl (by omega) ?_
   refine ⟨⟨k+1,hk',rfl,by rw [<- hrel,hstep,h]; rfl,hI⟩,by simp [intOf]; omega⟩
 ·have:k=s.size:=by omega
  subst this
  have hl:qB s=true:=by rw [<- hrel,<- nV,List.drop_length]; rfl
  refine fQ aT ?_
  refine fw ?_
  refine iL (fun h=>?_) (fun h=>done hI ?_)
  ·refine fQ aT ?_
   refine eC ?_
   refine gq h (done hI ?_)
   have h:=of_decide_eq_true h
   rw [mt,hl,decide_eq_true (show 1<=s.size by omega)]
   by_cases h2:s.size<=6
   ·rw [decide_eq_true h2,decide_eq_true (by omega)]; rfl
   ·rw [decide_eq_false h2,decide_eq_false (by omega)]; rfl
  ·have h:=of_decide_eq_false h
   rw [mt,hl,decide_eq_false (show ¬ 1<=s.size by omega)]; rfl

def yO:Array Value:=(signs.map Value.string).toArray
theorem JK {S:ae} {b:Nat} {E:TypeId} (hS:S b=some (.cells yO E)):RdSl S 1 oh (.slice (some ⟨b,0,none⟩) 15 15) signs:=by
 refine RdSl.ofCells hS rfl (by decide) ?_
 intro i hi
 have hi':i<15:=hi
 match i,hi' with
 | 0,_|1,_|2,_|3,_|4,_|5,_|6,_|7,_|8,_|9,_|10,_|11,_|12,_|13,_|14,_=>rfl
abbrev Fu (S:ae):Value->List Item->ae->Prop:=fun v I' S'=>I'=[]/\Sle S S'/\RdSl S' 1 oh v signs
theorem KL {S:ae} {b n:Nat} {o:Obj} (h:n<=b) (hs:Sle S (rh S b o)):Ext n [] S (rh S b o):=
 ⟨hs,fun c o' hc=>by
  simp only [rh] at hc
  split at hc
  ·rename_i e; subst e; exact .inr (.inr h)
  ·exact .inl hc⟩
theorem sD (S:ae):Tri Tryz.prog JG [] [] S (Fu S):=by
 intro w hI
 refine vq.2 ?_
 dsimp only[vq,sk]
 refine rg (v:=fun b=>.slice (some ⟨b,0,none⟩) 15 15) (o:=.cells yO jx) hI (by kernel_rfl) fun b w' hI=>?_
 have hnew:w.heap.size<=b:=by
  rcases hI.new b (by simp [bC,Item.foot]) with h|h
  ·simp [bC] at h
  ·exact h
 obtain ⟨h1,h2⟩:=Inv.publishLast (L:=[]) hI
 exact ⟨_,_,_,rfl,h1,KL hnew h2,rfl,h2,JK (by simp [rh]; rfl)⟩
theorem JX (s:ByteArray) {xs:List ByteArray} {S:ae} {v:Value} (h:RdSl S 1 oh v xs):Pure Tryz.prog Oh [v,.string s] S (.bool (xs.any fun x=>decide (x=s))):=by
 intro w hI
 have hlen:=h.le
 simp only [maxLen] at hlen
 refine C8.2 ?_
 dsimp only[C8,aW]
 refine ⟨fun i w'=>∃ k:Nat,k<=xs.length/\i=.int .i64 k/\(xs.drop k).any (fun x=>decide (x=s))=xs.any (fun x=>decide (x=s))/\Inv w [] [] S w',fun i _=>xs.length - (intOf i).toNat,⟨0,Nat.zero_le _,rfl,rfl,hI⟩,?_⟩
 intro t3 _ _ _ _ _ _ _ _ _ _ _ _ _ w'
 rintro ⟨k,hk,rfl,hrel,hI⟩
 refine aC h cg ?_
 refine bq ?_
 refine aI (fun hki=>?_) (fun hki=>?_)
 ·have hk':k<xs.length:=by omega
  have hstep:=IZ (fun x=>decide (x=s)) xs k hk'
  refine fy hI h cg aJ hk' (fun cs hcs=>hcs) ?_
  refine bg ?_
  refine az (fun he=>done hI ?_) (fun he=>?_)
  ·rw [<- hrel,hstep,he]; rfl
  ·refine bl (by omega) ?_
   exact ⟨⟨k+1,hk',rfl,by rw [<- hrel,hstep,he]; rfl,hI⟩,by simp [intOf]; omega⟩
 ·have:k=xs.length:=by omega
  subst this
  exact done hI (by rw [<- hrel,List.drop_length]; rfl)
theorem gi {w w':World} {L:List Item} {S S':ae} {r r':Value} (h:Inv w [] L S' w') (hs:Sle S S') (e:r'=r):Ending.returned r'=.returned r/\Inv w [] [] S w':=⟨by rw [e],h.nil.less hs⟩
theorem yA (s:ByteArray) (hs:s.size<=maxLen) (S:ae):Pure Tryz.prog Ef [.string s] S (.bool (md s)):=by
 intro w hI
 refine pZ.2 ?_
 dsimp only[pZ,aL]
 refine Run.callPure zo yZ hI (wJ s hs S) fun w' hI=>?_
 refine uG (fun h=>done hI ?_) (fun h=>?_)
 ·rw [md,h]; rfl
 ·refine Run.call0 wG uX hI (sD S) fun v' I' S' w'=>?_
  rintro ⟨rfl,_,hr⟩ hle hI
  refine Run.callPure LA Ms hI (JX s hr) fun w' hI=>?_
  refine nt h (gi hI hle ?_)
  rw [md,h]; rfl

theorem IJ {t:T} {S:ae} {cs:List Value} (h:RdT S cs t):Pure Tryz.prog NI [.agg cs.toArray] S (.bool (eM t)):=by
 intro w hI
 obtain ⟨kv,rfl,_,_,hs,hks⟩:=RdT.iff.1 h
 obtain ⟨k,n,s,ks⟩:=t
 simp only [T.name,T.kids,T.kind,T.n] at hs hks ⊢
 refine Db.2 ?_
 dsimp only[Db,aL]
 refine bf hI fun b1 w' hI=>?_
 refine ad hI 0 rfl aE av rfl ?_
 refine aZ ?_
 refine aI (fun hk=>?_) (fun hk=>?_)
 ·have ho:eM (.mk k n s ks)=(decide (0<=n) && (decide (n<=25) && (decide (s=emptyB) && decide (ks.length=0)))):=by
   rw [eM]; exact if_pos hk
  refine ad hI 0 rfl aM av rfl ?_
  refine fw ?_
  refine iL (fun h1=>?_) (fun h1=>?_)
  ·refine ad hI 0 rfl aM av rfl ?_
   refine eC ?_
   refine gq h1 ?_
   refine iL (fun h2=>?_) (fun h2=>?_)
   ·refine ad hI 0 rfl aO aJ rfl ?_
    refine bg ?_
    refine gq h2 ?_
    refine iL (fun h3=>?_) (fun h3=>done hI ?_)
    ·refine ad hI 0 rfl al ah rfl ?_
     refine aC hks af ?_
     refine aZ ?_
     refine gq h3 (done hI ?_)
     rw [ho,h1,h2,show decide (s=emptyB)=true from h3]
     simp
    ·rw [ho,h1,h2,show decide (s=emptyB)=false from h3]; rfl
   ·refine oE (done hI ?_)
    rw [ho,h1,h2]; rfl
  ·refine oE (oE (done hI ?_))
   rw [ho,h1]; rfl
 refine aZ ?_
 refine aI (fun hk2=>?_) (fun hk2=>?_)
 ·have ho:eM (.mk k n s ks)=(decide (-999<=n) && (decide (n<=999) && (decide (s=emptyB) && decide (ks.length=0)))):=by
   rw [eM]; exact (if_neg hk).trans (if_pos hk2)
  refine ad hI 0 rfl aM av rfl ?_
  refine fw ?_
  refine iL (fun h1=>?_) (fun h1=>?_)
  ·refine ad hI 0 rfl aM av rfl ?_
   refine eC ?_
   refine gq h1 ?_
   refine iL (fun h2=>?_) (fun h2=>?_)
   ·refine ad hI 0 rfl aO aJ rfl ?_
    refine bg ?_
    refine gq h2 ?_
    refine iL (fun h3=>?_) (fun h3=>done hI ?_)
    ·refine ad hI 0 rfl al ah rfl ?_
     refine aC hks af ?_
     refine aZ ?_
     refine gq h3 (done hI ?_)
     rw [ho,h1,h2,show decide (s=emptyB)=true from h3]
     simp
    ·rw [ho,h1,h2,show decide (s=emptyB)=false from h3]; rfl
   ·refine oE (done hI ?_)
    rw [ho,h1,h2]; rfl
  ·refine oE (oE (done hI ?_))
   rw [ho,h1]; rfl
 refine aZ ?_
 refine aI (fun hk3=>?_) (fun hk3=>done hI ?_)
 ·have ho:eM (.mk k n s ks)=(decide (n=0) && (md s && decide (ks.length<=4))):=by
   rw [eM]; exact (if_neg hk).trans ((if_neg hk2).trans (if_pos hk3))
  refine ad hI 0 rfl aM av rfl ?_
  refine aZ ?_
  refine iL (fun h1=>?_) (fun h1=>?_)
  ·refine ad hI 0 rfl aO aJ rfl ?_
   refine Run.callPure B0 CX hI (yA s hs S) fun w' hI=>?_
   refine gq h1 ?_
   refine iL (fun h2=>?_) (fun h2=>done hI ?_)
   ·refine ad hI 0 rfl al ah rfl ?_
    refine aC hks af ?_
    refine eC ?_
    refine gq h2 (done hI ?_)
    rw [ho,h1,h2]
    simp
    omega
   ·rw [ho,h1,h2]; rfl
  ·refine oE (done hI ?_)
   rw [ho,h1]; rfl
 ·rw [eM]
  exact congrArg Value.bool ((if_neg hk).trans ((if_neg hk2).trans (if_neg hk3))).symm

theorem El:∀ (t:T) (S:ae) (cs:List Value) (d:Int),RdT S cs t->-1<=d->d<=1000->Pure Tryz.prog JB [.agg cs.toArray,.int .i64 d] S (.bool (eZ t d)):=by
 refine T.ind fun k n s ks ih S cs d h h0 h1=>?_
 intro w hI
 have hcs:=h
 obtain ⟨kv,rfl,_,_,hs,hks⟩:=RdT.iff.1 h
 simp only [T.name,T.kids,T.kind,T.n] at hs hks ⊢
 have hlen:=hks.le
 simp only [maxLen] at hlen
 refine we.2 ?_
 dsimp only[we,aW]
 refine bf hI fun b1 w' hI=>?_
 refine ⟨fun t w'=>t=.bool (decide (d<1) || !eM (.mk k n s ks))/\Inv w [] [.blk b1 (.cells #[.int .i64 k,.int .i64 n,.string s,kv] ab)] S w',?_,?_⟩
 ·refine bq ?_
  refine uG (fun h=>⟨by rw [h]; rfl,hI⟩) (fun h=>?_)
  refine ao hI 0 ac rfl rfl ?_
  refine Run.callPure Mt Mq hI (IJ hcs) fun w' hI=>?_
  refine bK ?_
  exact nt h ⟨by rw [h]; rfl,hI⟩
 intro t _ _ _ _ _ _ w'
 rintro ⟨rfl,hI⟩
 refine az (fun hb=>done hI ?_) (fun hb=>?_)
 ·rw [eZ]
  by_cases hd:d<1
  ·rw [if_pos hd]
  ·rw [if_neg hd]
   simp [hd] at hb
   rw [hb]; rfl
 have hd:¬ d<1:=fun h=>by simp [h] at hb
 have ho:eM (.mk k n s ks)=true:=by simp [hd] at hb; exact hb
 refine ⟨fun i w'=>∃ j:Nat,j<=ks.length/\i=.int .i64 j/\eV (ks.drop j) (d - 1)=eV ks (d - 1)/\Inv w [] [.blk b1 (.cells #[.int .i64 k,.int .i64 n,.string s,kv] ab)] S w',
  fun i _=>ks.length - (intOf i).toNat,⟨0,Nat.zero_le _,rfl,rfl,hI⟩,?_⟩
 intro t5 _ _ _ _ _ _ _ _ _ _ _ _ _ _ _ _ _ w'
 rintro ⟨j,hj,rfl,hrel,hI⟩
 refine ad hI 0 rfl al ah rfl ?_
 refine aC hks af ?_
 refine bq ?_
 refine aI (fun hji=>?_) (fun hji=>?_)
 ·have hj':j<ks.length:=by omega
  have hstep:eV (ks.drop j) (d - 1)=(eZ ks[j] (d - 1) && eV (ks.drop (j+1)) (d - 1)):=by
   rw [List.drop_eq_getElem_cons hj',eV]
  refine ad hI 0 rfl al ah rfl ?_
  refine bY hI hks af ac hj' (fun _ _=>RdT.length) fun cs' hcs'=>?_
  refine hK (by omega) ?_
  refine Run.callPure ux vI hI (ih _ (List.getElem_mem hj') S cs' (d - 1) hcs' (by omega) (by omega)) fun w' hI=>?_
  refine bK ?_
  refine az (fun hne=>done hI ?_) (fun he=>?_)
  ·simp at hne
   rw [eZ,if_neg hd,ho,<- hrel,hstep,hne]; rfl
  ·simp at he
   refine bl (by omega) ?_
   exact ⟨⟨j+1,hj',rfl,by rw [<- hrel,hstep,he]; rfl,hI⟩,by simp [intOf]; omega⟩
 ·have:j=ks.length:=by omega
  subst this
  refine done hI ?_
  rw [eZ,if_neg hd,ho,<- hrel,List.drop_length,eV]; rfl

theorem tQ:∀ (ts:List T) (j:Nat) (h:j<ts.length),dd (ts.drop j)=dE ts[j]+dd (ts.drop (j+1)):=by
 intro ts j h
 rw [List.drop_eq_getElem_cons h,dd]
theorem EH:∀ (t:T) (S:ae) (cs:List Value) (most:Int),RdT S cs t->0<=most->most<=1000->dE t<=4611686018427387904->Pure Tryz.prog IC [.agg cs.toArray,.int .i64 most] S (.int .i64 (jP t most)):=by
 refine T.ind fun k n s ks ih S cs most h h0 h1 hc=>?_
 intro w hI
 obtain ⟨kv,rfl,_,_,hs,hks⟩:=RdT.iff.1 h
 simp only [T.name,T.kids,T.kind,T.n] at hs hks ⊢
 have hlen:=hks.le
 simp only [maxLen] at hlen
 rw [show dE (T.mk k n s ks)=1+dd ks from rfl] at hc
 refine xw.2 ?_
 dsimp only[xw,aW]
 refine bf hI fun b1 w' hI=>?_
 refine ⟨fun i m w'=>∃ (j:Nat) (c:Int),j<=ks.length/\i=.int .i64 j/\m=.int .i64 c/\1<=c/\c+dd (ks.drop j)<=1+dd ks/\f1 (ks.drop j) c most=f1 ks 1 most/\Inv w [] [.blk b1 (.cells #[.int .i64 k,.int .i64 n,.string s,kv] ab)] S w',
  fun i _ _=>ks.length - (intOf i).toNat,⟨0,1,Nat.zero_le _,rfl,rfl,by omega,by rw [List.drop_zero]; omega,rfl,hI⟩,?_⟩
 intro t6 _ _ t5 _ _ _ _ _ _ _ _ _ _ _ _ _ _ _ _ _ _ _ _ _ w'
 rintro ⟨j,c,hj,rfl,rfl,hc1,hc2,hrel,hI⟩
 refine ⟨fun t w'=>t=.bool (decide (j<ks.length) && decide (c<=most))/\Inv w [] [.blk b1 (.cells #[.int .i64 k,.int .i64 n,.string s,kv] ab)] S w',?_,?_⟩
 ·refine ad hI 0 rfl al ah rfl ?_
  refine aC hks af ?_
  refine bq ?_
  refine iL (fun h=>?_) (fun h=>⟨?_,hI⟩)
  ·refine eC ?_
   refine gq h ⟨?_,hI⟩
   rw [decide_eq_true (show j<ks.length from by have:=of_decide_eq_true h; omega)]; rfl
  ·rw [decide_eq_false (show ¬ j<ks.length from by have:=of_decide_eq_false h; omega)]; rfl
 intro t _ _ _ _ _ _ _ _ _ w'
 rintro ⟨rfl,hI⟩
 refine az (fun hb=>?_) (fun hb=>done hI ?_)
 ·simp at hb
  obtain ⟨hj',hcm⟩:=hb
  have hsp:=tQ ks j hj'
  have hstep:f1 (ks.drop j) c most=f1 (ks.drop (j+1)) (c+jP ks[j] (most - c)) most:=by
   rw [List.drop_eq_getElem_cons hj',f1,if_pos hcm]
  have hct:=yb ks[j] (most - c) (by omega)
  have hp:=jy ks[j]
  have hlp:=dX (ks.drop (j+1))
  have hcle:1<=jP ks[j] (most - c)/\jP ks[j] (most - c)<=dE ks[j]:=by
   by_cases hq:dE ks[j]<=most - c
   ·rw [hct.1 hq]; omega
   ·have:=hct.2 (by omega); omega
  refine ad hI 0 rfl al ah rfl ?_
  refine bY hI hks af ac hj' (fun _ _=>RdT.length) fun cs' hcs'=>?_
  refine hK (by omega) ?_
  refine Run.callPure vK wz hI (ih _ (List.getElem_mem hj') S cs' (most - c) hcs' (by omega) (by omega) (by omega)) fun w' hI=>?_
  refine bl (by omega) ?_
  refine bl (by omega) ?_
  exact ⟨⟨j+1,_,hj',rfl,rfl,by omega,by omega,by rw [<- hrel,hstep],hI⟩,by simp [intOf]; omega⟩
 ·show Value.int .i64 c=Value.int .i64 (f1 ks 1 most)
  rw [<- hrel]
  by_cases hj':j<ks.length
  ·simp [hj'] at hb
   rw [List.drop_eq_getElem_cons hj',f1,if_neg (by omega)]
  ·rw [List.drop_eq_nil_of_le (by omega),f1]

mutual
theorem Pz:∀ t:T,dE t<=1+(wT t:Int)
 | .mk k n s ks=>by
  rw [show dE (T.mk k n s ks)=1+dd ks from rfl,wT]
  have:=HX ks
  omega
theorem HX:∀ ts:List T,dd ts<=ts.length+(wL ts:Int)
 | []=>by simp [dd,wL]
 | t::ts=>by
  rw [show dd (t::ts)=dE t+dd ts from rfl,wL,List.length_cons]
  have:=Pz t; have:=HX ts
  omega
end

theorem eY {t:T} {S:ae} {cs:List Value} (h:RdT S cs t) (hc:dE t<=4611686018427387904):Pure Tryz.prog DZ [.agg cs.toArray] S (.bool (dg t)):=by
 intro w hI
 have hl:=h.length
 refine p5.2 ?_
 dsimp only[p5,aL]
 refine bf hI fun b1 w' hI=>?_
 refine ao hI 0 ac rfl (by simpa [Value.cells] using hl) ?_
 refine Run.callPure ux vI hI (El t S cs 30 h (by omega) (by omega)) fun w' hI=>?_
 refine iL (fun h1=>?_) (fun h1=>done hI ?_)
 ·refine ao hI 0 ac rfl (by simpa [Value.cells] using hl) ?_
  refine Run.callPure vK wz hI (EH t S cs 120 h (by omega) (by omega) hc) fun w' hI=>?_
  refine eC ?_
  refine gq h1 (done hI ?_)
  rw [dg,h1,Ow]; rfl
 ·rw [dg,h1]; rfl
end
section
open Go Go.RowKit
attribute [local irreducible] Run CondV aB aS

def cX {α σ:Type} (step:σ->α->Bool × σ):σ->List α->Nat->Int × σ
 | st,[],_=>(-1,st)
 | st,x::xs,k=>if (step st x).1 then ((k:Int),(step st x).2) else cX step (step st x).2 xs (k+1)
def lQ {α σ:Type} (step:σ->α->Bool × σ):σ->List α->Bool × σ
 | st,[]=>(false,st)
 | st,x::xs=>if (step st x).1 then (true,(step st x).2) else lQ step (step st x).2 xs
theorem kS {α σ:Type} (step:σ->α->Bool × σ):∀ (xs:List α) (st:σ) (k:Nat),decide (0<=(cX step st xs k).1)=(lQ step st xs).1/\(cX step st xs k).2=(lQ step st xs).2
 | [],st,k=>by simp [cX,lQ]
 | x::xs,st,k=>by
  by_cases h:(step st x).1=true
  ·simp [cX,lQ,h]
  ·simpa [cX,lQ,h] using kS step xs (step st x).2 (k+1)
theorem rD {α:Type} (p:α->Bool):∀ xs:List α,lQ (σ:=Unit) (fun _ x=>(p x,())) () xs=(xs.any p,())
 | []=>rfl
 | x::xs=>by
  simp only [lQ,List.any_cons]
  cases h:p x with
  | true=>rfl
  | false=>rw [rD p xs]; rfl
abbrev fv (f:FuncId) (cap:List Value):Value:=.func (.func f) #[] cap.toArray
section
variable {P:Program} {w w0:World} {X:List Nat} {A I:List Item} {S:ae} {K:Value->World->Prop}
theorem Ga {P:Program} {f:FuncId} {fn:Func} {cap args:List Value} {w:World} (hf:P.funcs[f]?=some fn) (hn:(fn.name == "runtime.NumGoroutine" || fn.body.isNone)=false) :
  (eo (fv f cap) args).run P w=.ok (.enter f (args++cap).toArray) w:=by
 simp only [Bool.or_eq_false_iff] at hn
 have h1:¬ fn.name = "runtime.NumGoroutine" := by simpa using hn.1
 have h2:¬ fn.body=none:=fun e=>by rw [e] at hn; simp at hn
 simp [eo,Deferred.ofValue,invoke,callFunc,hf,h1,h2]
theorem Run.callV {f:FuncId} {fn:Func} {cap args:List Value} {Post:Value->List Item->ae->Prop}
  (hf:P.funcs[f]?=some fn) (hn:(fn.name == "runtime.NumGoroutine" || fn.body.isNone)=false) (h:Inv w0 X (A++I) S w) (hc:Tri P f (args++cap) I S Post)
  (hk:∀ v I' S' w',Post v I' S'->Sle S S'->Inv w0 X (A++I') S' w'->K v w'):Run P (eo (fv f cap) args) w K:=by
 unfold Run
 rw [Ga hf hn]
 refine (hc w (h.sub (List.sublist_append_right A I)).begin).mono ?_
 rintro e w' ⟨v,I',S',rfl,hI,hE,hP⟩
 exact hk v I' S' w' hP hE.1 (Inv.step h hI hE.2)
end
structure Cb (P:Program) (f:FuncId) (fn:Func) {α σ:Type} (cap:List Value) (S:ae) (It:σ->List Item) (ok:σ->Prop) (step:σ->α->Bool × σ) (R:Value->α->Prop) (xs:List α):Prop where
 hf:P.funcs[f]?=some fn
 hn:(fn.name == "runtime.NumGoroutine" || fn.body.isNone)=false
 keep:∀ st x,x∈xs->ok st->(step st x).1=false->ok (step st x).2
 call:∀ st x v,x∈xs->ok st->R v x->Tri P f (v::cap) (It st) S fun r I' S'=>r=.bool (step st x).1/\I'=It (step st x).2/\S'=S
theorem Cb.pure {P:Program} {f:FuncId} {fn:Func} {α:Type} {cap:List Value} {S:ae} {p:α->Bool} {R:Value->α->Prop} {xs:List α} (L:List Item) (hf:P.funcs[f]?=some fn) (hn:(fn.name == "runtime.NumGoroutine" || fn.body.isNone)=false)
  (h:∀ x v,x∈xs->R v x->Tri P f (v::cap) L S fun r I' S'=>r=.bool (p x)/\I'=L/\S'=S):Cb P f fn cap S (fun _:Unit=>L) (fun _=>True) (fun _ x=>(p x,())) R xs:=
 ⟨hf,hn,fun _ _ _ _ _=>trivial,fun _ x v hx _ hR=>h x v hx hR⟩

theorem u0 {σ:Type} {f:FuncId} {fn:Func} {cap:List Value} {S:ae} {It:σ->List Item} {ok:σ->Prop} {step:σ->T->Bool × σ} {xs:List T} {v:Value}
  (hcb:Cb Tryz.prog f fn cap S It ok step (fun v x=>∃ cs,v=.agg cs.toArray/\RdT S cs x) xs) (h:RdSl S 4 (RdT S) v xs) {st:σ} (hok:ok st) :
  Tri Tryz.prog kY [v,fv f cap] (It st) S fun r I' S'=>r=.int .i64 (cX step st xs 0).1/\I'=It (cX step st xs 0).2/\S'=S:=by
 intro w hI
 have hlen:=h.le
 simp only [maxLen] at hlen
 refine eR.2 ?_
 dsimp only[eR,aW]
 refine aC h af ?_
 refine ⟨fun i w'=>∃ (k:Nat) (st':σ),k<=xs.length/\i=.int .i64 k/\ok st'/\cX step st' (xs.drop k) k=cX step st xs 0/\Inv w (bC (It st)) (It st') S w',fun i _=>xs.length - (intOf i).toNat,
  ⟨0,st,Nat.zero_le _,rfl,hok,rfl,hI⟩,?_⟩
 intro t8 _ _ _ _ _ _ _ _ _ _ _ _ w'
 rintro ⟨k,st',hk,rfl,hok',hrel,hI⟩
 refine bq ?_
 refine aI (fun hki=>?_) (fun hki=>?_)
 ·have hk':k<xs.length:=by omega
  have hm:=List.getElem_mem hk'
  have hstep:cX step st' (xs.drop k) k=if (step st' xs[k]).1 then ((k:Int),(step st' xs[k]).2) else cX step (step st' xs[k]).2 (xs.drop (k+1)) (k+1):=by
   rw [List.drop_eq_getElem_cons hk',cX]
  refine bY hI h af ac hk' (fun _ _=>RdT.length) fun cs hcs=>?_
  refine Run.callV (A:=[]) (args:=[.agg cs.toArray]) hcb.hf hcb.hn (by simpa using hI) (hcb.call st' _ _ hm hok' ⟨cs,rfl,hcs⟩) fun v' I' S' w'=>?_
  rintro ⟨rfl,rfl,rfl⟩ _ hI
  refine az (fun hb=>?_) (fun hb=>?_)
  ·rw [if_pos hb] at hstep
   refine ⟨_,_,_,rfl,by simpa using hI,Ext.refl _ _ _,?_,?_,rfl⟩
   ·rw [<- hrel,hstep]
   ·rw [<- hrel,hstep]
  ·refine bl (by omega) ?_
   rw [hb] at hstep
   refine ⟨⟨k+1,_,hk',rfl,hcb.keep st' _ hm hok' hb,?_,by simpa using hI⟩,by simp [intOf]; omega⟩
   rw [<- hrel,hstep]
   rfl
 ·have:k=xs.length:=by omega
  subst this
  rw [List.drop_length,cX] at hrel
  exact ⟨_,_,_,rfl,hI,Ext.refl _ _ _,by rw [<- hrel],by rw [<- hrel],rfl⟩
theorem jq {σ:Type} {f:FuncId} {fn:Func} {cap:List Value} {S:ae} {It:σ->List Item} {ok:σ->Prop} {step:σ->T->Bool × σ} {xs:List T} {v:Value}
  (hcb:Cb Tryz.prog f fn cap S It ok step (fun v x=>∃ cs,v=.agg cs.toArray/\RdT S cs x) xs) (h:RdSl S 4 (RdT S) v xs) {st:σ} (hok:ok st) :
  Tri Tryz.prog iI [v,fv f cap] (It st) S fun r I' S'=>r=.bool (lQ step st xs).1/\I'=It (lQ step st xs).2/\S'=S:=by
 intro w hI
 refine ef.2 ?_
 dsimp only[ef,aW]
 refine Run.call (A:=[]) j3 j6 (by simpa using hI) (u0 hcb h hok) fun v' I' S' w'=>?_
 rintro ⟨rfl,rfl,rfl⟩ _ hI
 refine fw ?_
 have he:=kS step xs st 0
 exact ⟨_,_,_,rfl,by simpa using hI,Ext.refl _ _ _,by rw [he.1],by rw [he.2],rfl⟩
theorem rY {σ:Type} {f:FuncId} {fn:Func} {cap:List Value} {S:ae} {It:σ->List Item} {ok:σ->Prop} {step:σ->C->Bool × σ} {xs:List C} {v:Value}
  (hcb:Cb Tryz.prog f fn cap S It ok step (fun v x=>∃ cs,v=.agg cs.toArray/\RdC S cs x) xs) (h:RdSl S 5 (RdC S) v xs) {st:σ} (hok:ok st) :
  Tri Tryz.prog pQ [v,fv f cap] (It st) S fun r I' S'=>r=.int .i64 (cX step st xs 0).1/\I'=It (cX step st xs 0).2/\S'=S:=by
 intro w hI
 have hlen:=h.le
 simp only [maxLen] at hlen
 refine iH.2 ?_
 dsimp only[iH,aW]
 refine aC h bL ?_
 refine ⟨fun i w'=>∃ (k:Nat) (st':σ),k<=xs.length/\i=.int .i64 k/\ok st'/\cX step st' (xs.drop k) k=cX step st xs 0/\Inv w (bC (It st)) (It st') S w',fun i _=>xs.length - (intOf i).toNat,
  ⟨0,st,Nat.zero_le _,rfl,hok,rfl,hI⟩,?_⟩
 intro t8 _ _ _ _ _ _ _ _ _ _ _ _ w'
 rintro ⟨k,st',hk,rfl,hok',hrel,hI⟩
 refine bq ?_
 refine aI (fun hki=>?_) (fun hki=>?_)
 ·have hk':k<xs.length:=by omega
  have hm:=List.getElem_mem hk'
  have hstep:cX step st' (xs.drop k) k=if (step st' xs[k]).1 then ((k:Int),(step st' xs[k]).2) else cX step (step st' xs[k]).2 (xs.drop (k+1)) (k+1):=by
   rw [List.drop_eq_getElem_cons hk',cX]
  refine bY hI h bL bo hk' (fun _ _=>RdC.length) fun cs hcs=>?_
  refine Run.callV (A:=[]) (args:=[.agg cs.toArray]) hcb.hf hcb.hn (by simpa using hI) (hcb.call st' _ _ hm hok' ⟨cs,rfl,hcs⟩) fun v' I' S' w'=>?_
  rintro ⟨rfl,rfl,rfl⟩ _ hI
  refine az (fun hb=>?_) (fun hb=>?_)
  ·rw [if_pos hb] at hstep
   refine ⟨_,_,_,rfl,by simpa using hI,Ext.refl _ _ _,?_,?_,rfl⟩
   ·rw [<- hrel,hstep]
   ·rw [<- hrel,hstep]
  ·refine bl (by omega) ?_
   rw [hb] at hstep
   refine ⟨⟨k+1,_,hk',rfl,hcb.keep st' _ hm hok' hb,?_,by simpa using hI⟩,by simp [intOf]; omega⟩
   rw [<- hrel,hstep]
   rfl
 ·have:k=xs.length:=by omega
  subst this
  rw [List.drop_length,cX] at hrel
  exact ⟨_,_,_,rfl,hI,Ext.refl _ _ _,by rw [<- hrel],by rw [<- hrel],rfl⟩
theorem oQ {σ:Type} {f:FuncId} {fn:Func} {cap:List Value} {S:ae} {It:σ->List Item} {ok:σ->Prop} {step:σ->C->Bool × σ} {xs:List C} {v:Value}
  (hcb:Cb Tryz.prog f fn cap S It ok step (fun v x=>∃ cs,v=.agg cs.toArray/\RdC S cs x) xs) (h:RdSl S 5 (RdC S) v xs) {st:σ} (hok:ok st) :
  Tri Tryz.prog nI [v,fv f cap] (It st) S fun r I' S'=>r=.bool (lQ step st xs).1/\I'=It (lQ step st xs).2/\S'=S:=by
 intro w hI
 refine gH.2 ?_
 dsimp only[gH,aW]
 refine Run.call (A:=[]) pA py (by simpa using hI) (rY hcb h hok) fun v' I' S' w'=>?_
 rintro ⟨rfl,rfl,rfl⟩ _ hI
 refine fw ?_
 have he:=kS step xs st 0
 exact ⟨_,_,_,rfl,by simpa using hI,Ext.refl _ _ _,by rw [he.1],by rw [he.2],rfl⟩
end
section
open Go Go.RowKit
attribute [local irreducible] Run CondV aB aS

theorem gw (n low high:Int) (S:ae):Pure Tryz.prog Mb [.int .i64 n,.int .i64 low,.int .i64 high] S (.bool (decide (low<=n) && decide (n<=high))):=by
 intro w hI
 refine yU.2 ?_
 dsimp only[yU,cW]
 refine eC ?_
 refine iL (fun h=>?_) (fun h=>done hI (by rw [h]; rfl))
 refine eC ?_
 exact gq h (done hI (by rw [h]; rfl))
theorem pk (s:ByteArray) (hs:s.size<=maxLen) (S:ae):Pure Tryz.prog DI [.string s] S (.bool (mt s)):=by
 intro w hI
 simp only [maxLen] at hs
 refine qS.2 ?_
 dsimp only[qS,aL]
 refine fQ aT ?_
 refine ⟨fun i w'=>∃ k:Nat,k<=s.size/\i=.int .i64 k/\(s.data.toList.drop k).all qy=qB s/\Inv w [] [] S w',fun i _=>s.size - (intOf i).toNat,⟨0,Nat.zero_le _,rfl,rfl,hI⟩,?_⟩
 intro t6 _ _ _ _ _ _ _ _ _ _ _ _ _ _ _ w'
 rintro ⟨k,hk,rfl,hrel,hI⟩
 refine bq ?_
 refine aI (fun hki=>?_) (fun hki=>?_)
 ·have hk':k<s.size:=by omega
  have hstep:=Da qy s.data.toList k (by rw [nV]; exact hk')
  rw [Kt s k hk'] at hstep
  refine ⟨fun t w'=>t=.bool (!qy s[k])/\Inv w [] [] S w',?_,?_⟩
  ·refine kT aT hk' ?_
   refine bq ?_
   refine uG (fun h=>⟨?_,hI⟩) (fun h=>?_)
   ·have h:=of_decide_eq_true h
    rw [qy,decide_eq_false (show ¬ 97<=s[k].toNat by omega)]; rfl
   ·refine kT aT hk' ?_
    refine dl ?_
    refine nt h ⟨?_,hI⟩
    have h:=of_decide_eq_false h
    rw [qy,decide_eq_true (show 97<=s[k].toNat by omega),Bool.true_and]
    by_cases h2:s[k].toNat<=122
    ·rw [decide_eq_true h2,decide_eq_false (by omega)]; rfl
    ·rw [decide_eq_false h2,decide_eq_true (by omega)]; rfl
  intro t _ _ _ _ _ _ _ _ _ w'
  rintro ⟨rfl,hI⟩
  refine az (fun h=>done hI ?_) (fun h=>?_)
  ·simp at h
   rw [mt,<- hrel,hstep,h]; rfl
  ·simp at h
   refine bl (by omega) ?_
   refine ⟨⟨k+1,hk',rfl,by rw [<- hrel,hstep,h]; rfl,hI⟩,by simp [intOf]; omega⟩
 ·have:k=s.size:=by omega
  subst this
  have hl:qB s=true:=by rw [<- hrel,<- nV,List.drop_length]; rfl
  refine fQ aT ?_
  refine Run.callPure g7 g0 hI (gw _ _ _ S) fun w' hI=>done hI ?_
  rw [mt,hl,Bool.true_and]
  congr 1
  rw [Bool.eq_iff_iff]
  simp
  omega
theorem Et (S:ae):Tri Tryz.prog Ii [] [] S (Fu S):=by
 intro w hI
 refine u9.2 ?_
 dsimp only[u9,sk]
 refine rg (v:=fun b=>.slice (some ⟨b,0,none⟩) 15 15) (o:=.cells yO jx) hI (by kernel_rfl) fun b w' hI=>?_
 have hnew:w.heap.size<=b:=by
  rcases hI.new b (by simp [bC,Item.foot]) with h|h
  ·simp [bC] at h
  ·exact h
 obtain ⟨h1,h2⟩:=Inv.publishLast (L:=[]) hI
 exact ⟨_,_,_,rfl,h1,KL hnew h2,rfl,h2,JK (by simp [rh]; rfl)⟩
theorem uk (s:ByteArray) {xs:List ByteArray} {S:ae} {v:Value} (h:RdSl S 1 oh v xs) :
  Pure Tryz.prog xT [v,.string s] S (.int .i64 (cX (σ:=Unit) (fun _ x=>(decide (x=s),())) () xs 0).1):=by
 intro w hI
 have hlen:=h.le
 simp only [maxLen] at hlen
 refine mv.2 ?_
 dsimp only[mv,aW]
 refine aC h cg ?_
 refine ⟨fun i w'=>∃ k:Nat,k<=xs.length/\i=.int .i64 k/\cX (σ:=Unit) (fun _ x=>(decide (x=s),())) () (xs.drop k) k=cX (σ:=Unit) (fun _ x=>(decide (x=s),())) () xs 0/\Inv w [] [] S w',
  fun i _=>xs.length - (intOf i).toNat,⟨0,Nat.zero_le _,rfl,rfl,hI⟩,?_⟩
 intro t8 _ _ _ _ _ _ _ _ _ _ _ _ w'
 rintro ⟨k,hk,rfl,hrel,hI⟩
 refine bq ?_
 refine aI (fun hki=>?_) (fun hki=>?_)
 ·have hk':k<xs.length:=by omega
  rw [List.drop_eq_getElem_cons hk',cX] at hrel
  refine fy hI h cg aJ hk' (fun cs hcs=>hcs) ?_
  refine bg ?_
  refine aI (fun he=>done hI ?_) (fun he=>?_)
  ·rw [<- hrel,if_pos (by simpa using he.symm)]
  ·refine bl (by omega) ?_
   rw [if_neg (by simpa using fun e=>he e.symm)] at hrel
   exact ⟨⟨k+1,hk',rfl,hrel,hI⟩,by simp [intOf]; omega⟩
 ·have:k=xs.length:=by omega
  subst this
  rw [List.drop_length,cX] at hrel
  exact done hI (by rw [<- hrel])
theorem fM (s:ByteArray) {xs:List ByteArray} {S:ae} {v:Value} (h:RdSl S 1 oh v xs) :
  Pure Tryz.prog rP [v,.string s] S (.bool (xs.any fun x=>decide (x=s))):=by
 intro w hI
 refine jv.2 ?_
 dsimp only[jv,aW]
 refine Run.callPure ve wZ hI (uk s h) fun w' hI=>?_
 refine fw (done hI ?_)
 rw [(kS _ xs () 0).1,rD]
theorem ym (s:ByteArray) (hs:s.size<=maxLen) (S:ae):Pure Tryz.prog DM [.string s] S (.bool (md s)):=by
 intro w hI
 refine rb.2 ?_
 dsimp only[rb,aL]
 refine Run.callPure pK p7 hI (pk s hs S) fun w' hI=>?_
 refine uG (fun h=>done hI ?_) (fun h=>?_)
 ·rw [md,h]; rfl
 ·refine Run.call0 H2 HZ hI (Et S) fun v' I' S' w'=>?_
  rintro ⟨rfl,_,hr⟩ hle hI
  refine Run.callPure gf gp hI (fM s hr) fun w' hI=>?_
  refine nt h (gi hI hle ?_)
  rw [md,h]; rfl

abbrev eQ (b:Nat) (c:Int):Item:=.blk b (.cells #[.int .i64 c] bZ)
abbrev oe (bc:Nat) (S:ae) (r:Bool × Int):Value->List Item->ae->Prop:=fun v I' S'=>v=.bool r.1/\I'=[eQ bc r.2]/\S'=S
theorem Kq:∀ (t:T) (deep c:Int),c<=120->(fp t deep c).1=true->c<(fp t deep c).2/\(fp t deep c).2<=120:=by
 intro t deep c hc h
 have:=Cy t deep c
 rw [this.2 h]
 have h1:=this.1
 rw [h] at h1
 have h2:=h1.symm
 simp at h2
 have:=jy t
 omega
theorem FF (deep:Int):∀ (ks:List T) (c:Int),lQ (fun c t=>(!(fp t deep c).1,(fp t deep c).2)) c ks=(!(lC ks deep c).1,(lC ks deep c).2)
 | [],c=>by simp [lQ,lC]
 | t::ts,c=>by
  by_cases h:(fp t deep c).1=true
  ·simp [lQ,lC,h,FF deep ts]
  ·simp [lQ,lC,h]

theorem Lx:∀ (t:T) (S:ae) (cs:List Value) (deep c:Int) (bc:Nat),RdT S cs t->0<=deep->deep<=31->0<=c->c<=120->
  Tri Tryz.prog O0 [.agg cs.toArray,.int .i64 deep,.pointer (some ⟨bc,0,none⟩)] [eQ bc c] S (oe bc S (fp t deep c)):=by
 refine T.ind fun k n s ks ih S cs deep c bc h hd0 hd1 hc0 hc1=>?_
 intro w hI
 obtain ⟨kv,rfl,_,_,hs,hks⟩:=RdT.iff.1 h
 simp only [T.name,T.kids,T.kind,T.n] at hs hks ⊢
 have hend:∀ {L:List Item} {w':World} {v:Value} (r:Bool × Int),Inv w (bC [eQ bc c]) (eQ bc r.2::L) S w'->v=.bool r.1->r=fp (.mk k n s ks) deep c->
   ∃ v' I' S',Ending.returned v=.returned v'/\Inv w (bC [eQ bc c]) I' S' w'/\Ext w.heap.size (bC [eQ bc c]) S S'/\oe bc S (fp (.mk k n s ks) deep c) v' I' S':=by
  intro L w' v r h1 h2 h3
  subst h3
  exact ⟨_,_,_,rfl,h1.pick [true],Ext.refl _ _ _,h2,rfl,rfl⟩
 refine Fa.2 ?_
 dsimp only[Fa,cW]
 refine bf hI fun b3 w' hI=>?_
 refine bf hI fun b4 w' hI=>?_
 refine bf hI fun b5 w' hI=>?_
 refine aA hI 3 rC rfl rfl ?_
 refine bF ?_
 refine aA hI 0 av rfl rfl ?_
 refine bl (by omega) ?_
 refine bF ?_
 refine dA hI 0 (n:=1) rfl (by rw [av]; rfl) rfl (Nat.le_of_ble_eq_true rfl) (by simp [Value.cells]; rfl) fun w' hI=>?_
 refine ⟨fun t w'=>t=.bool (decide (120<c+1 ∨ 30<deep))/\Inv w (bC [eQ bc c]) [eQ bc (c+1),.blk b3 (.cells #[.int .i64 k,.int .i64 n,.string s,kv] ab),.blk b4 (.cells #[.int .i64 deep] bZ),.blk b5 (.cells #[.pointer (some ⟨bc,0,none⟩)] gG)] S w',?_,?_⟩
 ·refine aA hI 3 rC rfl rfl ?_
  refine bF ?_
  refine aA hI 0 av rfl rfl ?_
  refine dl ?_
  refine uG (fun h=>⟨?_,hI⟩) (fun h=>?_)
  ·have h:=of_decide_eq_true h
   rw [decide_eq_true (show 120<c+1 ∨ 30<deep from .inl h)]
  ·refine aA hI 2 av rfl rfl ?_
   refine dl ?_
   refine nt h ⟨?_,hI⟩
   have h:=of_decide_eq_false h
   congr 1
   rw [Bool.eq_iff_iff]
   simp
   omega
 intro t _ _ _ _ _ _ _ w'
 rintro ⟨rfl,hI⟩
 refine aI (fun hb=>?_) (fun hb=>?_)
 ·exact hend (false,c+1) hI rfl (by rw [fp,if_pos hb])
 have hsc:∀ r,(if k=1 ∨ k=2 then (eM (.mk k n s ks),c+1) else if k=3 then (if eM (.mk k n s ks) then lC ks (deep+1) (c+1) else (false,c+1)) else (false,c+1))=r->r=fp (.mk k n s ks) deep c:=by
  intro r hr
  rw [fp,if_neg hb,hr]
 refine ad hI 1 rfl aE av rfl ?_
 refine aZ ?_
 refine aI (fun hk=>?_) (fun hk=>?_)
 ·have ho:eM (.mk k n s ks)=(decide (0<=n) && (decide (n<=25) && (decide (s=emptyB) && decide (ks.length=0)))):=by
   rw [eM]; exact if_pos hk
  have hfin:∀ {w':World} {b:Bool},Inv w (bC [eQ bc c]) [eQ bc (c+1),.blk b3 (.cells #[.int .i64 k,.int .i64 n,.string s,kv] ab),.blk b4 (.cells #[.int .i64 deep] bZ),.blk b5 (.cells #[.pointer (some ⟨bc,0,none⟩)] gG)] S w'->
    b=eM (.mk k n s ks)->∃ v' I' S',Ending.returned (.bool b)=.returned v'/\Inv w (bC [eQ bc c]) I' S' w'/\Ext w.heap.size (bC [eQ bc c]) S S'/\oe bc S (fp (.mk k n s ks) deep c) v' I' S':=
   fun hI hb=>hend (_,c+1) hI (by rw [hb]) (hsc _ (if_pos (.inl hk)))
  refine ad hI 1 rfl aM av rfl ?_
  refine Run.callPure g7 g0 hI (gw _ _ _ S) fun w' hI=>?_
  refine iL (fun h2=>?_) (fun h2=>?_)
  ·have h2':=h2
   rw [Bool.and_eq_true] at h2'
   refine ad hI 1 rfl aO aJ rfl ?_
   refine bg ?_
   refine gq h2 ?_
   refine iL (fun h3=>?_) (fun h3=>hfin hI ?_)
   ·refine ad hI 1 rfl al ah rfl ?_
    refine aC hks af ?_
    refine aZ ?_
    refine gq h3 (hfin hI ?_)
    rw [ho,h2'.1,h2'.2,show decide (s=emptyB)=true from h3]
    simp
   ·rw [ho,h2'.1,h2'.2,show decide (s=emptyB)=false from h3]; rfl
  ·refine oE (hfin hI ?_)
   rw [ho,<- Bool.and_assoc,h2]; rfl
 refine aZ ?_
 refine aI (fun hk2=>?_) (fun hk2=>?_)
 ·have ho:eM (.mk k n s ks)=(decide (-999<=n) && (decide (n<=999) && (decide (s=emptyB) && decide (ks.length=0)))):=by
   rw [eM]; exact (if_neg hk).trans (if_pos hk2)
  have hfin:∀ {w':World} {b:Bool},Inv w (bC [eQ bc c]) [eQ bc (c+1),.blk b3 (.cells #[.int .i64 k,.int .i64 n,.string s,kv] ab),.blk b4 (.cells #[.int .i64 deep] bZ),.blk b5 (.cells #[.pointer (some ⟨bc,0,none⟩)] gG)] S w'->
    b=eM (.mk k n s ks)->∃ v' I' S',Ending.returned (.bool b)=.returned v'/\Inv w (bC [eQ bc c]) I' S' w'/\Ext w.heap.size (bC [eQ bc c]) S S'/\oe bc S (fp (.mk k n s ks) deep c) v' I' S':=
   fun hI hb=>hend (_,c+1) hI (by rw [hb]) (hsc _ (if_pos (.inr hk2)))
  refine ad hI 1 rfl aM av rfl ?_
  refine Run.callPure g7 g0 hI (gw _ _ _ S) fun w' hI=>?_
  refine iL (fun h2=>?_) (fun h2=>?_)
  ·have h2':=h2
   rw [Bool.and_eq_true] at h2'
   refine ad hI 1 rfl aO aJ rfl ?_
   refine bg ?_
   refine gq h2 ?_
   refine iL (fun h3=>?_) (fun h3=>hfin hI ?_)
   ·refine ad hI 1 rfl al ah rfl ?_
    refine aC hks af ?_
    refine aZ ?_
    refine gq h3 (hfin hI ?_)
    rw [ho,h2'.1,h2'.2,show decide (s=emptyB)=true from h3]
    simp
   ·rw [ho,h2'.1,h2'.2,show decide (s=emptyB)=false from h3]; rfl
  ·refine oE (hfin hI ?_)
   rw [ho,<- Bool.and_assoc,h2]; rfl
 refine aZ ?_
 have hk12:¬ (k=1 ∨ k=2):=fun h=>h.elim hk hk2
 refine aI (fun hk3=>?_) (fun hk3=>?_)
 ·have ho:eM (.mk k n s ks)=(decide (n=0) && (md s && decide (ks.length<=4))):=by
   rw [eM]; exact (if_neg hk).trans ((if_neg hk2).trans (if_pos hk3))
  refine ⟨fun t w'=>t=.bool (!eM (.mk k n s ks))/\Inv w (bC [eQ bc c]) [eQ bc (c+1),.blk b3 (.cells #[.int .i64 k,.int .i64 n,.string s,kv] ab),.blk b4 (.cells #[.int .i64 deep] bZ),.blk b5 (.cells #[.pointer (some ⟨bc,0,none⟩)] gG)] S w',?_,?_⟩
  ·refine ad hI 1 rfl aM av rfl ?_
   refine cD ?_
   refine uG (fun h1=>?_) (fun h1=>?_)
   ·have h1':decide (n=0)=false:=by simpa using h1
    refine TL ⟨?_,hI⟩
    rw [ho,h1']; rfl
   ·have h1':decide (n=0)=true:=by simpa using h1
    refine ad hI 1 rfl aO aJ rfl ?_
    refine Run.callPure CA Bw hI (ym s hs S) fun w' hI=>?_
    refine bK ?_
    refine nt h1 ?_
    refine uG (fun h2=>⟨?_,hI⟩) (fun h2=>?_)
    ·have h2':md s=false:=by simpa using h2
     rw [ho,h1',h2']; rfl
    ·have h2':md s=true:=by simpa using h2
     refine ad hI 1 rfl al ah rfl ?_
     refine aC hks af ?_
     refine dl ?_
     refine nt h2 ⟨?_,hI⟩
     rw [ho,h1',h2',Bool.true_and,Bool.true_and]
     congr 1
     rw [Bool.eq_iff_iff]
     simp
     omega
  intro t _ _ _ _ _ _ _ _ _ _ _ _ _ _ w'
  rintro ⟨rfl,hI⟩
  refine az (fun hb1=>?_) (fun hb1=>?_)
  ·have hb1':eM (.mk k n s ks)=false:=by simpa using hb1
   exact hend (false,c+1) hI rfl (hsc _ (by rw [if_neg hk12,if_pos hk3,hb1']; rfl))
  ·have hb1':eM (.mk k n s ks)=true:=by simpa using hb1
   refine ad hI 1 rfl al ah rfl ?_
   refine tU ?_
   have hcb:Cb Tryz.prog Mo Tryz.f142 [.pointer (some ⟨b4,0,none⟩),.pointer (some ⟨b5,0,none⟩)] S
     (fun c:Int=>[eQ bc c,.blk b4 (.cells #[.int .i64 deep] bZ),.blk b5 (.cells #[.pointer (some ⟨bc,0,none⟩)] gG)]) (fun c=>0<=c/\c<=120)
     (fun c t=>(!(fp t (deep+1) c).1,(fp t (deep+1) c).2)) (fun v x=>∃ cs,v=.agg cs.toArray/\RdT S cs x) ks:=by
    refine ⟨Jp,Kf,fun st x _ hst hf=>?_,fun st x v hx hst=>?_⟩
    ·have:=Kq x (deep+1) st hst.2 (by simpa using hf)
     omega
    ·rintro ⟨cs,rfl,hcs⟩ w1 hI
     have hl:=hcs.length
     refine zn.2 ?_
     dsimp only[zn,cW]
     refine bf hI fun b w' hI=>?_
     refine ao hI 3 ac rfl (by simpa [Value.cells] using hl) ?_
     refine aA hI 1 av rfl rfl ?_
     refine bl (by omega) ?_
     refine aA hI 2 rC rfl rfl ?_
     have hI:=hI.perm (M:=[.blk b4 (.cells #[.int .i64 deep] bZ),.blk b5 (.cells #[.pointer (some ⟨bc,0,none⟩)] gG),.blk b (.cells (Value.agg cs.toArray).cells ab)]++[eQ bc st])
      (List.perm_append_comm (l₁:=[_,_,_]) (l₂:=[eQ bc st]))
     refine Run.call ES FP hI (ih x hx S cs (deep+1) st bc hcs (by omega) (by omega) hst.1 hst.2) fun v' I' S' w'=>?_
     rintro ⟨rfl,rfl,rfl⟩ _ hI
     refine bK ?_
     have hI:=(hI.perm (M:=[eQ bc (fp x (deep+1) st).2]++[.blk b4 (.cells #[.int .i64 deep] bZ),.blk b5 (.cells #[.pointer (some ⟨bc,0,none⟩)] gG),.blk b (.cells (Value.agg cs.toArray).cells ab)])
      List.perm_append_comm).pick [true,true,true,false]
     exact ⟨_,_,_,rfl,hI,Ext.refl _ _ _,rfl,rfl,rfl⟩
   have hI:=hI.perm (M:=[.blk b3 (.cells #[.int .i64 k,.int .i64 n,.string s,kv] ab)]++[eQ bc (c+1),.blk b4 (.cells #[.int .i64 deep] bZ),.blk b5 (.cells #[.pointer (some ⟨bc,0,none⟩)] gG)]) (List.Perm.swap _ _ _)
   refine Run.call fG fF hI (jq hcb hks ⟨by omega,by omega⟩) fun v' I' S' w'=>?_
   rintro ⟨rfl,rfl,rfl⟩ _ hI
   refine bK ?_
   rw [FF] at hI ⊢
   have hI:=hI.perm (M:=[eQ bc (lC ks (deep+1) (c+1)).2,.blk b3 (.cells #[.int .i64 k,.int .i64 n,.string s,kv] ab),.blk b4 (.cells #[.int .i64 deep] bZ),.blk b5 (.cells #[.pointer (some ⟨bc,0,none⟩)] gG)]) (List.Perm.swap _ _ _)
   refine hend (lC ks (deep+1) (c+1)) hI (by simp) (hsc _ (by rw [if_neg hk12,if_pos hk3,hb1']; rfl))
 ·exact hend (false,c+1) hI rfl (hsc _ (by rw [if_neg hk12,if_neg hk3]))

theorem iN {t:T} {S:ae} {cs:List Value} (h:RdT S cs t):Pure Tryz.prog Ee [.agg cs.toArray] S (.bool (dg t)):=by
 intro w hI
 have hl:=h.length
 refine qU.2 ?_
 dsimp only[qU,aL]
 refine bf hI fun b1 w' hI=>?_
 refine aD hI K2 fun b2 w' hI=>?_
 refine dA hI 1 (n:=1) rfl (by rw [av]; rfl) rfl (Nat.le_of_ble_eq_true rfl) (by simp [Value.cells]; rfl) fun w' hI=>?_
 refine ao hI 0 ac rfl (by simpa [Value.cells] using hl) ?_
 refine Run.call (A:=[_]) (I:=[eQ b2 0]) ES FP hI (Lx t S cs 1 0 b2 h (by omega) (by omega) (by omega) (by omega)) fun v' I' S' w'=>?_
 rintro ⟨rfl,rfl,rfl⟩ _ hI
 exact done hI (by rw [LD])
end
end Go.Proofs.YtfcbhfjomgopbaaGreat
