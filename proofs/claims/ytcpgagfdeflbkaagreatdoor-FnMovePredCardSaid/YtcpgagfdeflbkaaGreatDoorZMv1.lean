/- slices.IndexFunc and slices.ContainsFunc, whatever function is handed to them. -/
import Derived.Test.YtcpgagfdeflbkaaGreatDoorZMv0
import Derived.Test.YtcpgagfdeflbkaaGreatDoorZMvF
import Derived.Test.YtcpgagfdeflbkaaGreatDoorZMvgz
namespace Go.Proofs.YtcpgagfdeflbkaaGreatDoor
section
open Go Go.RowKit
attribute [local irreducible] Run CondV ao aI

def bR {α σ:Type} (step:σ->α->Bool × σ):σ->List α->Nat->Int × σ
 | st,[],_=>(-1,st)
 | st,x::xs,k=>if (step st x).1 then ((k:Int),(step st x).2) else bR step (step st x).2 xs (k+1)
def pg {α σ:Type} (step:σ->α->Bool × σ):σ->List α->Bool × σ
 | st,[]=>(false,st)
 | st,x::xs=>if (step st x).1 then (true,(step st x).2) else pg step (step st x).2 xs
theorem iF {α σ:Type} (step:σ->α->Bool × σ):∀ (xs:List α) (st:σ) (k:Nat),decide (0<=(bR step st xs k).1)=(pg step st xs).1/\(bR step st xs k).2=(pg step st xs).2
 | [],st,k=>by simp [bR,pg]
 | x::xs,st,k=>by
  by_cases h:(step st x).1=true
  ·simp [bR,pg,h]
  ·simpa [bR,pg,h] using iF step xs (step st x).2 (k+1)
theorem kf {α:Type} (p:α->Bool):∀ xs:List α,pg (σ:=Unit) (fun _ x=>(p x,())) () xs=(xs.any p,())
 | []=>rfl
 | x::xs=>by
  simp only [pg,List.any_cons]
  cases h:p x with
  | true=>rfl
  | false=>rw [kf p xs]; rfl
abbrev fv (f:FuncId) (cap:List Value):Value:=.func (.func f) #[] cap.toArray
section
variable {P:Program} {w w0:World} {X:List Nat} {A I:List Item} {S:ad} {K:Value->World->Prop}
theorem BD {P:Program} {f:FuncId} {fn:Func} {cap args:List Value} {w:World} (hf:P.funcs[f]?=some fn) (hn:(fn.name == "runtime.NumGoroutine" || fn.body.isNone)=false) :
  (dy (fv f cap) args).run P w=.ok (.enter f (args++cap).toArray) w:=by
 simp only [Bool.or_eq_false_iff] at hn
 have h1:¬ fn.name = "runtime.NumGoroutine" := by simpa using hn.1
 have h2:¬ fn.body=none:=fun e=>by rw [e] at hn; simp at hn
 simp [dy,Deferred.ofValue,invoke,callFunc,hf,h1,h2]
theorem Run.callV {f:FuncId} {fn:Func} {cap args:List Value} {Post:Value->List Item->ad->Prop}
  (hf:P.funcs[f]?=some fn) (hn:(fn.name == "runtime.NumGoroutine" || fn.body.isNone)=false) (h:Inv w0 X (A++I) S w) (hc:Tri P f (args++cap) I S Post)
  (hk:∀ v I' S' w',Post v I' S'->Sle S S'->Inv w0 X (A++I') S' w'->K v w'):Run P (dy (fv f cap) args) w K:=by
 unfold Run
 rw [BD hf hn]
 refine (hc w (h.sub (List.sublist_append_right A I)).begin).mono ?_
 rintro e w' ⟨v,I',S',rfl,hI,hE,hP⟩
 exact hk v I' S' w' hP hE.1 (Inv.step h hI hE.2)
end
structure Cb (P:Program) (f:FuncId) (fn:Func) {α σ:Type} (cap:List Value) (S:ad) (It:σ->List Item) (ok:σ->Prop) (step:σ->α->Bool × σ) (R:Value->α->Prop) (xs:List α):Prop where
 hf:P.funcs[f]?=some fn
 hn:(fn.name == "runtime.NumGoroutine" || fn.body.isNone)=false
 keep:∀ st x,x∈xs->ok st->(step st x).1=false->ok (step st x).2
 call:∀ st x v,x∈xs->ok st->R v x->Tri P f (v::cap) (It st) S fun r I' S'=>r=.bool (step st x).1/\I'=It (step st x).2/\S'=S
theorem Cb.pure {P:Program} {f:FuncId} {fn:Func} {α:Type} {cap:List Value} {S:ad} {p:α->Bool} {R:Value->α->Prop} {xs:List α} (L:List Item) (hf:P.funcs[f]?=some fn) (hn:(fn.name == "runtime.NumGoroutine" || fn.body.isNone)=false)
  (h:∀ x v,x∈xs->R v x->Tri P f (v::cap) L S fun r I' S'=>r=.bool (p x)/\I'=L/\S'=S):Cb P f fn cap S (fun _:Unit=>L) (fun _=>True) (fun _ x=>(p x,())) R xs:=
 ⟨hf,hn,fun _ _ _ _ _=>trivial,fun _ x v hx _ hR=>h x v hx hR⟩

theorem s6 {σ:Type} {f:FuncId} {fn:Func} {cap:List Value} {S:ad} {It:σ->List Item} {ok:σ->Prop} {step:σ->T->Bool × σ} {xs:List T} {v:Value}
  (hcb:Cb Tryz.prog f fn cap S It ok step (fun v x=>∃ cs,v=.agg cs.toArray/\RdT S cs x) xs) (h:RdSl S 4 (RdT S) v xs) {st:σ} (hok:ok st) :
  Tri Tryz.prog iG [v,fv f cap] (It st) S fun r I' S'=>r=.int .i64 (bR step st xs 0).1/\I'=It (bR step st xs 0).2/\S'=S:=by
 intro w hI
 have hlen:=h.le
 simp only [maxLen] at hlen
 refine dE.2 ?_
 dsimp only[dE,aR]
 refine aD h ag ?_
 refine ⟨fun i w'=>∃ (k:Nat) (st':σ),k<=xs.length/\i=.int .i64 k/\ok st'/\bR step st' (xs.drop k) k=bR step st xs 0/\Inv w (bp (It st)) (It st') S w',fun i _=>xs.length - (intOf i).toNat,
  ⟨0,st,Nat.zero_le _,rfl,hok,rfl,hI⟩,?_⟩
 intro t8 _ _ _ _ _ _ _ _ _ _ _ _ w'
 rintro ⟨k,st',hk,rfl,hok',hrel,hI⟩
 refine bC ?_
 refine aH (fun hki=>?_) (fun hki=>?_)
 ·have hk':k<xs.length:=by omega
  have hm:=List.getElem_mem hk'
  have hstep:bR step st' (xs.drop k) k=if (step st' xs[k]).1 then ((k:Int),(step st' xs[k]).2) else bR step (step st' xs[k]).2 (xs.drop (k+1)) (k+1):=by
   rw [List.drop_eq_getElem_cons hk',bR]
  refine bM hI h ag ac hk' (fun _ _=>RdT.length) fun cs hcs=>?_
  refine Run.callV (A:=[]) (args:=[.agg cs.toArray]) hcb.hf hcb.hn (by simpa using hI) (hcb.call st' _ _ hm hok' ⟨cs,rfl,hcs⟩) fun v' I' S' w'=>?_
  rintro ⟨rfl,rfl,rfl⟩ _ hI
  refine av (fun hb=>?_) (fun hb=>?_)
  ·rw [if_pos hb] at hstep
   refine ⟨_,_,_,rfl,by simpa using hI,Ext.refl _ _ _,?_,?_,rfl⟩
   ·rw [<- hrel,hstep]
   ·rw [<- hrel,hstep]
  ·refine bi (by omega) ?_
   rw [hb] at hstep
   refine ⟨⟨k+1,_,hk',rfl,hcb.keep st' _ hm hok' hb,?_,by simpa using hI⟩,by simp [intOf]; omega⟩
   rw [<- hrel,hstep]
   rfl
 ·have:k=xs.length:=by omega
  subst this
  rw [List.drop_length,bR] at hrel
  exact ⟨_,_,_,rfl,hI,Ext.refl _ _ _,by rw [<- hrel],by rw [<- hrel],rfl⟩
theorem gG {σ:Type} {f:FuncId} {fn:Func} {cap:List Value} {S:ad} {It:σ->List Item} {ok:σ->Prop} {step:σ->T->Bool × σ} {xs:List T} {v:Value}
  (hcb:Cb Tryz.prog f fn cap S It ok step (fun v x=>∃ cs,v=.agg cs.toArray/\RdT S cs x) xs) (h:RdSl S 4 (RdT S) v xs) {st:σ} (hok:ok st) :
  Tri Tryz.prog fT [v,fv f cap] (It st) S fun r I' S'=>r=.bool (pg step st xs).1/\I'=It (pg step st xs).2/\S'=S:=by
 intro w hI
 refine dc.2 ?_
 dsimp only[dc,aR]
 refine Run.call (A:=[]) gW gZ (by simpa using hI) (s6 hcb h hok) fun v' I' S' w'=>?_
 rintro ⟨rfl,rfl,rfl⟩ _ hI
 refine li ?_
 have he:=iF step xs st 0
 exact ⟨_,_,_,rfl,by simpa using hI,Ext.refl _ _ _,by rw [he.1],by rw [he.2],rfl⟩
theorem o4 {σ:Type} {f:FuncId} {fn:Func} {cap:List Value} {S:ad} {It:σ->List Item} {ok:σ->Prop} {step:σ->C->Bool × σ} {xs:List C} {v:Value}
  (hcb:Cb Tryz.prog f fn cap S It ok step (fun v x=>∃ cs,v=.agg cs.toArray/\RdC S cs x) xs) (h:RdSl S 5 (RdC S) v xs) {st:σ} (hok:ok st) :
  Tri Tryz.prog nV [v,fv f cap] (It st) S fun r I' S'=>r=.int .i64 (bR step st xs 0).1/\I'=It (bR step st xs 0).2/\S'=S:=by
 intro w hI
 have hlen:=h.le
 simp only [maxLen] at hlen
 refine fU.2 ?_
 dsimp only[fU,aR]
 refine aD h aY ?_
 refine ⟨fun i w'=>∃ (k:Nat) (st':σ),k<=xs.length/\i=.int .i64 k/\ok st'/\bR step st' (xs.drop k) k=bR step st xs 0/\Inv w (bp (It st)) (It st') S w',fun i _=>xs.length - (intOf i).toNat,
  ⟨0,st,Nat.zero_le _,rfl,hok,rfl,hI⟩,?_⟩
 intro t8 _ _ _ _ _ _ _ _ _ _ _ _ w'
 rintro ⟨k,st',hk,rfl,hok',hrel,hI⟩
 refine bC ?_
 refine aH (fun hki=>?_) (fun hki=>?_)
 ·have hk':k<xs.length:=by omega
  have hm:=List.getElem_mem hk'
  have hstep:bR step st' (xs.drop k) k=if (step st' xs[k]).1 then ((k:Int),(step st' xs[k]).2) else bR step (step st' xs[k]).2 (xs.drop (k+1)) (k+1):=by
   rw [List.drop_eq_getElem_cons hk',bR]
  refine bM hI h aY aO hk' (fun _ _=>RdC.length) fun cs hcs=>?_
  refine Run.callV (A:=[]) (args:=[.agg cs.toArray]) hcb.hf hcb.hn (by simpa using hI) (hcb.call st' _ _ hm hok' ⟨cs,rfl,hcs⟩) fun v' I' S' w'=>?_
  rintro ⟨rfl,rfl,rfl⟩ _ hI
  refine av (fun hb=>?_) (fun hb=>?_)
  ·rw [if_pos hb] at hstep
   refine ⟨_,_,_,rfl,by simpa using hI,Ext.refl _ _ _,?_,?_,rfl⟩
   ·rw [<- hrel,hstep]
   ·rw [<- hrel,hstep]
  ·refine bi (by omega) ?_
   rw [hb] at hstep
   refine ⟨⟨k+1,_,hk',rfl,hcb.keep st' _ hm hok' hb,?_,by simpa using hI⟩,by simp [intOf]; omega⟩
   rw [<- hrel,hstep]
   rfl
 ·have:k=xs.length:=by omega
  subst this
  rw [List.drop_length,bR] at hrel
  exact ⟨_,_,_,rfl,hI,Ext.refl _ _ _,by rw [<- hrel],by rw [<- hrel],rfl⟩
theorem ly {σ:Type} {f:FuncId} {fn:Func} {cap:List Value} {S:ad} {It:σ->List Item} {ok:σ->Prop} {step:σ->C->Bool × σ} {xs:List C} {v:Value}
  (hcb:Cb Tryz.prog f fn cap S It ok step (fun v x=>∃ cs,v=.agg cs.toArray/\RdC S cs x) xs) (h:RdSl S 5 (RdC S) v xs) {st:σ} (hok:ok st) :
  Tri Tryz.prog kX [v,fv f cap] (It st) S fun r I' S'=>r=.bool (pg step st xs).1/\I'=It (pg step st xs).2/\S'=S:=by
 intro w hI
 refine eY.2 ?_
 dsimp only[eY,aR]
 refine Run.call (A:=[]) mO mP (by simpa using hI) (o4 hcb h hok) fun v' I' S' w'=>?_
 rintro ⟨rfl,rfl,rfl⟩ _ hI
 refine li ?_
 have he:=iF step xs st 0
 exact ⟨_,_,_,rfl,by simpa using hI,Ext.refl _ _ _,by rw [he.1],by rw [he.2],rfl⟩
end
section
open Go Go.RowKit
attribute [local irreducible] Run CondV ao aI

theorem dX (n low high:Int) (S:ad):Pure Tryz.prog Gp [.int .i64 n,.int .i64 low,.int .i64 high] S (.bool (decide (low<=n) && decide (n<=high))):=by
 intro w hI
 refine vf.2 ?_
 dsimp only[vf,ft]
 refine dI ?_
 refine gw (fun h=>?_) (fun h=>done hI (by rw [h]; rfl))
 refine dI ?_
 exact eV h (done hI (by rw [h]; rfl))
theorem mv (s:ByteArray) (hs:s.size<=maxLen) (S:ad):Pure Tryz.prog Af [.string s] S (.bool (jt s)):=by
 intro w hI
 simp only [maxLen] at hs
 refine mU.2 ?_
 dsimp only[mU,aC]
 refine fO aG ?_
 refine ⟨fun i w'=>∃ k:Nat,k<=s.size/\i=.int .i64 k/\(s.data.toList.drop k).all n5=nG s/\Inv w [] [] S w',fun i _=>s.size - (intOf i).toNat,⟨0,Nat.zero_le _,rfl,rfl,hI⟩,?_⟩
 intro t6 _ _ _ _ _ _ _ _ _ _ _ _ _ _ _ w'
 rintro ⟨k,hk,rfl,hrel,hI⟩
 refine bC ?_
 refine aH (fun hki=>?_) (fun hki=>?_)
 ·have hk':k<s.size:=by omega
  have hstep:=FF n5 s.data.toList k (by rw [lm]; exact hk')
  rw [DV s k hk'] at hstep
  refine ⟨fun t w'=>t=.bool (!n5 s[k])/\Inv w [] [] S w',?_,?_⟩
  ·refine iP aG hk' ?_
   refine bC ?_
   refine Cn (fun h=>⟨?_,hI⟩) (fun h=>?_)
   ·have h:=of_decide_eq_true h
    rw [n5,decide_eq_false (show ¬ 97<=s[k].toNat by omega)]; rfl
   ·refine iP aG hk' ?_
    refine dK ?_
    refine u6 h ⟨?_,hI⟩
    have h:=of_decide_eq_false h
    rw [n5,decide_eq_true (show 97<=s[k].toNat by omega),Bool.true_and]
    by_cases h2:s[k].toNat<=122
    ·rw [decide_eq_true h2,decide_eq_false (by omega)]; rfl
    ·rw [decide_eq_false h2,decide_eq_true (by omega)]; rfl
  intro t _ _ _ _ _ _ _ _ _ w'
  rintro ⟨rfl,hI⟩
  refine av (fun h=>done hI ?_) (fun h=>?_)
  ·simp at h
   rw [jt,<- hrel,hstep,h]; rfl
  ·simp at h
   refine bi (by omega) ?_
   refine ⟨⟨k+1,hk',rfl,by rw [<- hrel,hstep,h]; rfl,hI⟩,by simp [intOf]; omega⟩
 ·have:k=s.size:=by omega
  subst this
  have hl:nG s=true:=by rw [<- hrel,<- lm,List.drop_length]; rfl
  refine fO aG ?_
  refine Run.callPure ek eD hI (dX _ _ _ S) fun w' hI=>done hI ?_
  rw [jt,hl,Bool.true_and]
  congr 1
  rw [Bool.eq_iff_iff]
  simp
  omega
theorem zJ (S:ad):Tri Tryz.prog DI [] [] S (Br S):=by
 intro w hI
 refine qT.2 ?_
 dsimp only[qT,l8]
 refine oF (v:=fun b=>.slice (some ⟨b,0,none⟩) 15 15) (o:=.cells tR eG) hI (by kernel_rfl) fun b w' hI=>?_
 have hnew:w.heap.size<=b:=by
  rcases hI.new b (by simp [bp,Item.foot]) with h|h
  ·simp [bp] at h
  ·exact h
 obtain ⟨h1,h2⟩:=Inv.publishLast (L:=[]) hI
 exact ⟨_,_,_,rfl,h1,DB hnew h2,rfl,h2,Ep (by simp [kU]; rfl)⟩
theorem pV (s:ByteArray) {xs:List ByteArray} {S:ad} {v:Value} (h:RdSl S 1 l4 v xs) :
  Pure Tryz.prog tM [v,.string s] S (.int .i64 (bR (σ:=Unit) (fun _ x=>(decide (x=s),())) () xs 0).1):=by
 intro w hI
 have hlen:=h.le
 simp only [maxLen] at hlen
 refine jz.2 ?_
 dsimp only[jz,aR]
 refine aD h bw ?_
 refine ⟨fun i w'=>∃ k:Nat,k<=xs.length/\i=.int .i64 k/\bR (σ:=Unit) (fun _ x=>(decide (x=s),())) () (xs.drop k) k=bR (σ:=Unit) (fun _ x=>(decide (x=s),())) () xs 0/\Inv w [] [] S w',
  fun i _=>xs.length - (intOf i).toNat,⟨0,Nat.zero_le _,rfl,rfl,hI⟩,?_⟩
 intro t8 _ _ _ _ _ _ _ _ _ _ _ _ w'
 rintro ⟨k,hk,rfl,hrel,hI⟩
 refine bC ?_
 refine aH (fun hki=>?_) (fun hki=>?_)
 ·have hk':k<xs.length:=by omega
  rw [List.drop_eq_getElem_cons hk',bR] at hrel
  refine gn hI h bw aK hk' (fun cs hcs=>hcs) ?_
  refine bj ?_
  refine aH (fun he=>done hI ?_) (fun he=>?_)
  ·rw [<- hrel,if_pos (by simpa using he.symm)]
  ·refine bi (by omega) ?_
   rw [if_neg (by simpa using fun e=>he e.symm)] at hrel
   exact ⟨⟨k+1,hk',rfl,hrel,hI⟩,by simp [intOf]; omega⟩
 ·have:k=xs.length:=by omega
  subst this
  rw [List.drop_length,bR] at hrel
  exact done hI (by rw [<- hrel])
theorem ec (s:ByteArray) {xs:List ByteArray} {S:ad} {v:Value} (h:RdSl S 1 l4 v xs) :
  Pure Tryz.prog pd [v,.string s] S (.bool (xs.any fun x=>decide (x=s))):=by
 intro w hI
 refine gy.2 ?_
 dsimp only[gy,aR]
 refine Run.callPure rZ s5 hI (pV s h) fun w' hI=>?_
 refine li (done hI ?_)
 rw [(iF _ xs () 0).1,kf]
theorem un (s:ByteArray) (hs:s.size<=maxLen) (S:ad):Pure Tryz.prog z3 [.string s] S (.bool (i5 s)):=by
 intro w hI
 refine ot.2 ?_
 dsimp only[ot,aC]
 refine Run.callPure oE oe hI (mv s hs S) fun w' hI=>?_
 refine Cn (fun h=>done hI ?_) (fun h=>?_)
 ·rw [i5,h]; rfl
 ·refine Run.call0 Dn BS hI (zJ S) fun v' I' S' w'=>?_
  rintro ⟨rfl,_,hr⟩ hle hI
  refine Run.callPure eo eA hI (ec s hr) fun w' hI=>?_
  refine u6 h (iy hI hle ?_)
  rw [i5,h]; rfl

abbrev gP (b:Nat) (c:Int):Item:=.blk b (.cells #[.int .i64 c] bG)
abbrev sn (bc:Nat) (S:ad) (r:Bool × Int):Value->List Item->ad->Prop:=fun v I' S'=>v=.bool r.1/\I'=[gP bc r.2]/\S'=S
theorem Ew:∀ (t:T) (deep c:Int),c<=120->(dP t deep c).1=true->c<(dP t deep c).2/\(dP t deep c).2<=120:=by
 intro t deep c hc h
 have:=xG t deep c
 rw [this.2 h]
 have h1:=this.1
 rw [h] at h1
 have h2:=h1.symm
 simp at h2
 have:=rr t
 omega
theorem Bp (deep:Int):∀ (ks:List T) (c:Int),pg (fun c t=>(!(dP t deep c).1,(dP t deep c).2)) c ks=(!(iO ks deep c).1,(iO ks deep c).2)
 | [],c=>by simp [pg,iO]
 | t::ts,c=>by
  by_cases h:(dP t deep c).1=true
  ·simp [pg,iO,h,Bp deep ts]
  ·simp [pg,iO,h]

theorem HD:∀ (t:T) (S:ad) (cs:List Value) (deep c:Int) (bc:Nat),RdT S cs t->0<=deep->deep<=31->0<=c->c<=120->
  Tri Tryz.prog Ki [.agg cs.toArray,.int .i64 deep,.pointer (some ⟨bc,0,none⟩)] [gP bc c] S (sn bc S (dP t deep c)):=by
 refine T.ind fun k n s ks ih S cs deep c bc h hd0 hd1 hc0 hc1=>?_
 intro w hI
 obtain ⟨kv,rfl,_,_,hs,hks⟩:=RdT.iff.1 h
 simp only [T.name,T.kids,T.kind,T.n] at hs hks ⊢
 have hend:∀ {L:List Item} {w':World} {v:Value} (r:Bool × Int),Inv w (bp [gP bc c]) (gP bc r.2::L) S w'->v=.bool r.1->r=dP (.mk k n s ks) deep c->
   ∃ v' I' S',Ending.returned v=.returned v'/\Inv w (bp [gP bc c]) I' S' w'/\Ext w.heap.size (bp [gP bc c]) S S'/\sn bc S (dP (.mk k n s ks) deep c) v' I' S':=by
  intro L w' v r h1 h2 h3
  subst h3
  exact ⟨_,_,_,rfl,h1.pick [true],Ext.refl _ _ _,h2,rfl,rfl⟩
 refine BA.2 ?_
 dsimp only[BA,ft]
 refine bl hI fun b3 w' hI=>?_
 refine bl hI fun b4 w' hI=>?_
 refine bl hI fun b5 w' hI=>?_
 refine aT hI 3 Dc rfl rfl ?_
 refine al ?_
 refine aT hI 0 aF rfl rfl ?_
 refine bi (by omega) ?_
 refine al ?_
 refine cB hI 0 (n:=1) rfl (by rw [aF]; rfl) rfl (Nat.le_of_ble_eq_true rfl) (by simp [Value.cells]; rfl) fun w' hI=>?_
 refine ⟨fun t w'=>t=.bool (decide (120<c+1 ∨ 30<deep))/\Inv w (bp [gP bc c]) [gP bc (c+1),.blk b3 (.cells #[.int .i64 k,.int .i64 n,.string s,kv] ab),.blk b4 (.cells #[.int .i64 deep] bG),.blk b5 (.cells #[.pointer (some ⟨bc,0,none⟩)] lM)] S w',?_,?_⟩
 ·refine aT hI 3 Dc rfl rfl ?_
  refine al ?_
  refine aT hI 0 aF rfl rfl ?_
  refine dK ?_
  refine Cn (fun h=>⟨?_,hI⟩) (fun h=>?_)
  ·have h:=of_decide_eq_true h
   rw [decide_eq_true (show 120<c+1 ∨ 30<deep from .inl h)]
  ·refine aT hI 2 aF rfl rfl ?_
   refine dK ?_
   refine u6 h ⟨?_,hI⟩
   have h:=of_decide_eq_false h
   congr 1
   rw [Bool.eq_iff_iff]
   simp
   omega
 intro t _ _ _ _ _ _ _ w'
 rintro ⟨rfl,hI⟩
 refine aH (fun hb=>?_) (fun hb=>?_)
 ·exact hend (false,c+1) hI rfl (by rw [dP,if_pos hb])
 have hsc:∀ r,(if k=1 ∨ k=2 then (dH (.mk k n s ks),c+1) else if k=3 then (if dH (.mk k n s ks) then iO ks (deep+1) (c+1) else (false,c+1)) else (false,c+1))=r->r=dP (.mk k n s ks) deep c:=by
  intro r hr
  rw [dP,if_neg hb,hr]
 refine ae hI 1 rfl aP aF rfl ?_
 refine ba ?_
 refine aH (fun hk=>?_) (fun hk=>?_)
 ·have ho:dH (.mk k n s ks)=(decide (0<=n) && (decide (n<=25) && (decide (s=emptyB) && decide (ks.length=0)))):=by
   rw [dH]; exact if_pos hk
  have hfin:∀ {w':World} {b:Bool},Inv w (bp [gP bc c]) [gP bc (c+1),.blk b3 (.cells #[.int .i64 k,.int .i64 n,.string s,kv] ab),.blk b4 (.cells #[.int .i64 deep] bG),.blk b5 (.cells #[.pointer (some ⟨bc,0,none⟩)] lM)] S w'->
    b=dH (.mk k n s ks)->∃ v' I' S',Ending.returned (.bool b)=.returned v'/\Inv w (bp [gP bc c]) I' S' w'/\Ext w.heap.size (bp [gP bc c]) S S'/\sn bc S (dP (.mk k n s ks) deep c) v' I' S':=
   fun hI hb=>hend (_,c+1) hI (by rw [hb]) (hsc _ (if_pos (.inl hk)))
  refine ae hI 1 rfl bb aF rfl ?_
  refine Run.callPure ek eD hI (dX _ _ _ S) fun w' hI=>?_
  refine gw (fun h2=>?_) (fun h2=>?_)
  ·have h2':=h2
   rw [Bool.and_eq_true] at h2'
   refine ae hI 1 rfl aQ aK rfl ?_
   refine bj ?_
   refine eV h2 ?_
   refine gw (fun h3=>?_) (fun h3=>hfin hI ?_)
   ·refine ae hI 1 rfl ar aj rfl ?_
    refine aD hks ag ?_
    refine ba ?_
    refine eV h3 (hfin hI ?_)
    rw [ho,h2'.1,h2'.2,show decide (s=emptyB)=true from h3]
    simp
   ·rw [ho,h2'.1,h2'.2,show decide (s=emptyB)=false from h3]; rfl
  ·refine lP (hfin hI ?_)
   rw [ho,<- Bool.and_assoc,h2]; rfl
 refine ba ?_
 refine aH (fun hk2=>?_) (fun hk2=>?_)
 ·have ho:dH (.mk k n s ks)=(decide (-999<=n) && (decide (n<=999) && (decide (s=emptyB) && decide (ks.length=0)))):=by
   rw [dH]; exact (if_neg hk).trans (if_pos hk2)
  have hfin:∀ {w':World} {b:Bool},Inv w (bp [gP bc c]) [gP bc (c+1),.blk b3 (.cells #[.int .i64 k,.int .i64 n,.string s,kv] ab),.blk b4 (.cells #[.int .i64 deep] bG),.blk b5 (.cells #[.pointer (some ⟨bc,0,none⟩)] lM)] S w'->
    b=dH (.mk k n s ks)->∃ v' I' S',Ending.returned (.bool b)=.returned v'/\Inv w (bp [gP bc c]) I' S' w'/\Ext w.heap.size (bp [gP bc c]) S S'/\sn bc S (dP (.mk k n s ks) deep c) v' I' S':=
   fun hI hb=>hend (_,c+1) hI (by rw [hb]) (hsc _ (if_pos (.inr hk2)))
  refine ae hI 1 rfl bb aF rfl ?_
  refine Run.callPure ek eD hI (dX _ _ _ S) fun w' hI=>?_
  refine gw (fun h2=>?_) (fun h2=>?_)
  ·have h2':=h2
   rw [Bool.and_eq_true] at h2'
   refine ae hI 1 rfl aQ aK rfl ?_
   refine bj ?_
   refine eV h2 ?_
   refine gw (fun h3=>?_) (fun h3=>hfin hI ?_)
   ·refine ae hI 1 rfl ar aj rfl ?_
    refine aD hks ag ?_
    refine ba ?_
    refine eV h3 (hfin hI ?_)
    rw [ho,h2'.1,h2'.2,show decide (s=emptyB)=true from h3]
    simp
   ·rw [ho,h2'.1,h2'.2,show decide (s=emptyB)=false from h3]; rfl
  ·refine lP (hfin hI ?_)
   rw [ho,<- Bool.and_assoc,h2]; rfl
 refine ba ?_
 have hk12:¬ (k=1 ∨ k=2):=fun h=>h.elim hk hk2
 refine aH (fun hk3=>?_) (fun hk3=>?_)
 ·have ho:dH (.mk k n s ks)=(decide (n=0) && (i5 s && decide (ks.length<=4))):=by
   rw [dH]; exact (if_neg hk).trans ((if_neg hk2).trans (if_pos hk3))
  refine ⟨fun t w'=>t=.bool (!dH (.mk k n s ks))/\Inv w (bp [gP bc c]) [gP bc (c+1),.blk b3 (.cells #[.int .i64 k,.int .i64 n,.string s,kv] ab),.blk b4 (.cells #[.int .i64 deep] bG),.blk b5 (.cells #[.pointer (some ⟨bc,0,none⟩)] lM)] S w',?_,?_⟩
  ·refine ae hI 1 rfl bb aF rfl ?_
   refine fN ?_
   refine Cn (fun h1=>?_) (fun h1=>?_)
   ·have h1':decide (n=0)=false:=by simpa using h1
    refine Oj ⟨?_,hI⟩
    rw [ho,h1']; rfl
   ·have h1':decide (n=0)=true:=by simpa using h1
    refine ae hI 1 rfl aQ aK rfl ?_
    refine Run.callPure yu y6 hI (un s hs S) fun w' hI=>?_
    refine bU ?_
    refine u6 h1 ?_
    refine Cn (fun h2=>⟨?_,hI⟩) (fun h2=>?_)
    ·have h2':i5 s=false:=by simpa using h2
     rw [ho,h1',h2']; rfl
    ·have h2':i5 s=true:=by simpa using h2
     refine ae hI 1 rfl ar aj rfl ?_
     refine aD hks ag ?_
     refine dK ?_
     refine u6 h2 ⟨?_,hI⟩
     rw [ho,h1',h2',Bool.true_and,Bool.true_and]
     congr 1
     rw [Bool.eq_iff_iff]
     simp
     omega
  intro t _ _ _ _ _ _ _ _ _ _ _ _ _ _ w'
  rintro ⟨rfl,hI⟩
  refine av (fun hb1=>?_) (fun hb1=>?_)
  ·have hb1':dH (.mk k n s ks)=false:=by simpa using hb1
   exact hend (false,c+1) hI rfl (hsc _ (by rw [if_neg hk12,if_pos hk3,hb1']; rfl))
  ·have hb1':dH (.mk k n s ks)=true:=by simpa using hb1
   refine ae hI 1 rfl ar aj rfl ?_
   refine lB ?_
   have hcb:Cb Tryz.prog Gm Tryz.f123 [.pointer (some ⟨b4,0,none⟩),.pointer (some ⟨b5,0,none⟩)] S
     (fun c:Int=>[gP bc c,.blk b4 (.cells #[.int .i64 deep] bG),.blk b5 (.cells #[.pointer (some ⟨bc,0,none⟩)] lM)]) (fun c=>0<=c/\c<=120)
     (fun c t=>(!(dP t (deep+1) c).1,(dP t (deep+1) c).2)) (fun v x=>∃ cs,v=.agg cs.toArray/\RdT S cs x) ks:=by
    refine ⟨EF,FD,fun st x _ hst hf=>?_,fun st x v hx hst=>?_⟩
    ·have:=Ew x (deep+1) st hst.2 (by simpa using hf)
     omega
    ·rintro ⟨cs,rfl,hcs⟩ w1 hI
     have hl:=hcs.length
     refine uC.2 ?_
     dsimp only[uC,ft]
     refine bl hI fun b w' hI=>?_
     refine aw hI 3 ac rfl (by simpa [Value.cells] using hl) ?_
     refine aT hI 1 aF rfl rfl ?_
     refine bi (by omega) ?_
     refine aT hI 2 Dc rfl rfl ?_
     have hI:=hI.perm (M:=[.blk b4 (.cells #[.int .i64 deep] bG),.blk b5 (.cells #[.pointer (some ⟨bc,0,none⟩)] lM),.blk b (.cells (Value.agg cs.toArray).cells ab)]++[gP bc st])
      (List.perm_append_comm (l₁:=[_,_,_]) (l₂:=[gP bc st]))
     refine Run.call A5 AD hI (ih x hx S cs (deep+1) st bc hcs (by omega) (by omega) hst.1 hst.2) fun v' I' S' w'=>?_
     rintro ⟨rfl,rfl,rfl⟩ _ hI
     refine bU ?_
     have hI:=(hI.perm (M:=[gP bc (dP x (deep+1) st).2]++[.blk b4 (.cells #[.int .i64 deep] bG),.blk b5 (.cells #[.pointer (some ⟨bc,0,none⟩)] lM),.blk b (.cells (Value.agg cs.toArray).cells ab)])
      List.perm_append_comm).pick [true,true,true,false]
     exact ⟨_,_,_,rfl,hI,Ext.refl _ _ _,rfl,rfl,rfl⟩
   have hI:=hI.perm (M:=[.blk b3 (.cells #[.int .i64 k,.int .i64 n,.string s,kv] ab)]++[gP bc (c+1),.blk b4 (.cells #[.int .i64 deep] bG),.blk b5 (.cells #[.pointer (some ⟨bc,0,none⟩)] lM)]) (List.Perm.swap _ _ _)
   refine Run.call dT dY hI (gG hcb hks ⟨by omega,by omega⟩) fun v' I' S' w'=>?_
   rintro ⟨rfl,rfl,rfl⟩ _ hI
   refine bU ?_
   rw [Bp] at hI ⊢
   have hI:=hI.perm (M:=[gP bc (iO ks (deep+1) (c+1)).2,.blk b3 (.cells #[.int .i64 k,.int .i64 n,.string s,kv] ab),.blk b4 (.cells #[.int .i64 deep] bG),.blk b5 (.cells #[.pointer (some ⟨bc,0,none⟩)] lM)]) (List.Perm.swap _ _ _)
   refine hend (iO ks (deep+1) (c+1)) hI (by simp) (hsc _ (by rw [if_neg hk12,if_pos hk3,hb1']; rfl))
 ·exact hend (false,c+1) hI rfl (hsc _ (by rw [if_neg hk12,if_neg hk3]))

theorem kS {t:T} {S:ad} {cs:List Value} (h:RdT S cs t):Pure Tryz.prog Au [.agg cs.toArray] S (.bool (cZ t)):=by
 intro w hI
 have hl:=h.length
 refine nP.2 ?_
 dsimp only[nP,aC]
 refine bl hI fun b1 w' hI=>?_
 refine aL hI K9 fun b2 w' hI=>?_
 refine cB hI 1 (n:=1) rfl (by rw [aF]; rfl) rfl (Nat.le_of_ble_eq_true rfl) (by simp [Value.cells]; rfl) fun w' hI=>?_
 refine aw hI 0 ac rfl (by simpa [Value.cells] using hl) ?_
 refine Run.call (A:=[_]) (I:=[gP b2 0]) A5 AD hI (HD t S cs 1 0 b2 h (by omega) (by omega) (by omega) (by omega)) fun v' I' S' w'=>?_
 rintro ⟨rfl,rfl,rfl⟩ _ hI
 exact done hI (by rw [GD])
end
end Go.Proofs.YtcpgagfdeflbkaaGreatDoor
