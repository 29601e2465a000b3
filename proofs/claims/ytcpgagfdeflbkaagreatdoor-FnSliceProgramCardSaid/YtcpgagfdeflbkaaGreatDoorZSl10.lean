/- The graph of calls: the plain form. -/
import Derived.Test.YtcpgagfdeflbkaaGreatDoorZSl9
import Derived.Test.YtcpgagfdeflbkaaGreatDoorZSl2
import Derived.Test.YtcpgagfdeflbkaaGreatDoorZSl3
import Derived.Test.YtcpgagfdeflbkaaGreatDoorZSl4
import Derived.Test.YtcpgagfdeflbkaaGreatDoorZSl8
import Derived.Test.YtcpgagfdeflbkaaGreatDoorZSl5
namespace Go.Proofs.YtcpgagfdeflbkaaGreatDoor
section
open Go Go.RowKit
attribute [local irreducible] Run CondV aq aK

def bW (l:List Pd) (ts:List T):List Pd:=ts.foldl (fun l t=>if dg t=true then ff l (bE t) else l) l
def dd (l:List Pd) (p:List C) (x:Pd):List Pd:=p.foldl (fun l c=>if eC (bE c.head) x=true then bW l c.body else l) l
def dq (p:List C) (x:Pd):List Pd:=dd [] p x
def dL (l m:List Pd):List Pd:=m.foldl ff l
def fi:Nat->List C->List Pd->Nat->List Pd
 | 0,_,l,_=>l
 | n+1,p,l,i=>if h:i<l.length then fi n p (dL l (dq p l[i])) (i+1) else l
def gPs (p:List C):List Pd:=p.flatMap fun c=>c.body.map bE
def fP (p:List C) (l:List Pd):List Pd:=fi (l.length+(gPs p).length) p l 0
theorem xE (l:List Pd) (ts:List T) (k:Nat) (h:k<ts.length):bW l (ts.drop k)=bW (if dg ts[k]=true then ff l (bE ts[k]) else l) (ts.drop (k+1)):=by
 rw [di h]; rfl
theorem Cd (l:List Pd) (p:List C) (x:Pd) (k:Nat) (h:k<p.length):dd l (p.drop k) x=dd (if eC (bE p[k].head) x=true then bW l p[k].body else l) (p.drop (k+1)) x:=by
 rw [di h]; rfl
theorem yw (l m:List Pd) (k:Nat) (h:k<m.length):dL l (m.drop k)=dL (ff l m[k]) (m.drop (k+1)):=by
 rw [di h]; rfl
theorem AM (l:List Pd) (x:Pd):(ff l x).length<=l.length+1:=by
 unfold ff
 split
 ·omega
 ·simp
theorem iE:∀ (ts:List T) (l:List Pd),(bW l ts).length<=l.length+ts.length
 | [],l=>aM _
 | t::ts,l=>by
  have h:=iE ts (if dg t=true then ff l (bE t) else l)
  have h2:=AM l (bE t)
  have e:bW l (t::ts)=bW (if dg t=true then ff l (bE t) else l) ts:=rfl
  rw [e,bk]
  split at h <;> rename_i hp
  ·rw [ai hp]; omega
  ·rw [af hp]; omega
theorem vZ (c:C) (p:List C):(gPs (c::p)).length=c.body.length+(gPs p).length:=by simp [gPs]
theorem BP:∀ p:List C,(gPs p).length<=wP p
 | []=>by simp [gPs]
 | c::p=>by
  have:=BP p
  rw [vZ]
  simp only [wP,wC]
  omega
theorem rJ (x:Pd):∀ (p:List C) (l:List Pd),(dd l p x).length<=l.length+(gPs p).length
 | [],l=>qJ _ _
 | c::p,l=>by
  have h:=rJ x p (if eC (bE c.head) x=true then bW l c.body else l)
  have h2:=iE c.body l
  have e:dd l (c::p) x=dd (if eC (bE c.head) x=true then bW l c.body else l) p x:=rfl
  rw [e,vZ]
  split at h <;> rename_i hp
  ·rw [ai hp]; omega
  ·rw [af hp]; omega
theorem z6:∀ (ts:List T) (l:List Pd) (y:Pd),y∈bW l ts->y∈l ∨ y∈ts.map bE
 | [],l,y,h=>.inl h
 | t::ts,l,y,h=>by
  have e:bW l (t::ts)=bW (if dg t=true then ff l (bE t) else l) ts:=rfl
  rw [e] at h
  rcases z6 ts _ y h with h|h
  ·split at h
   ·unfold ff at h
    split at h
    ·exact .inl h
    ·rcases cd.1 h with h|h
     ·exact .inl h
     ·simp at h; subst h; exact .inr (by simp)
   ·exact .inl h
  ·exact .inr (by simp at h ⊢; exact .inr h)
theorem sn (x:Pd):∀ (p:List C) (l:List Pd) (y:Pd),y∈dd l p x->y∈l ∨ y∈gPs p
 | [],l,y,h=>.inl h
 | c::p,l,y,h=>by
  have e:dd l (c::p) x=dd (if eC (bE c.head) x=true then bW l c.body else l) p x:=rfl
  have hG:∀ z,z∈gPs (c::p)↔z∈c.body.map bE ∨ z∈gPs p:=fun z=>by simp only [gPs,zc,cd]
  rw [e] at h
  rcases sn x p _ y h with h|h
  ·split at h
   ·rcases z6 _ _ _ h with h|h
    ·exact .inl h
    ·exact .inr ((hG y).2 (.inl h))
   ·exact .inl h
  ·exact .inr ((hG y).2 (.inr h))
theorem sN {p:List C} {x y:Pd} (h:y∈dq p x):y∈gPs p:=by
 rcases sn x p [] y h with h|h
 ·simp at h
 ·exact h
theorem Aj (p:List C) (x:Pd):(dq p x).length<=(gPs p).length:=by
 have:=rJ x p []
 simp at this
 exact this
def pot (G l:List Pd):Nat:=(G.filter fun g=>!pq l g).length
theorem Le (G l:List Pd):pot G l<=G.length:=IJ ..
theorem wA (l:List Pd) (x g:Pd):pq (l++[x]) g=(pq l g || eC g x):=by simp [pq]
theorem xM (l:List Pd) (x:Pd):∀ G:List Pd,pot G (l++[x])<=pot G l
 | []=>aM _
 | g::G=>by
  have:=xM l x G
  unfold pot at *
  rw [ow,ow,wA]
  cases pq l g <;> cases eC g x <;> simp <;> omega
theorem zd (l:List Pd) (x:Pd) (hx:pq l x=false):∀ G:List Pd,x∈G->pot G (l++[x])+1<=pot G l
 | g::G,h=>by
  by_cases e:x=g
  ·subst e
   have:=xM l x G
   unfold pot at *
   rw [ow,ow,wA,hx,i0]
   simp
   omega
  ·have h':x∈G:=by
    rcases cQ.1 h with h|h
    ·exact absurd h e
    ·exact h
   have:=zd l x hx G h'
   unfold pot at *
   rw [ow,ow,wA]
   have e2:eC g x=false:=by rw [i0]; exact bg fun h=>e h.symm
   rw [e2]
   cases pq l g <;> simp <;> omega
theorem Bg {G l:List Pd} {x:Pd} (hx:x∈G):(ff l x).length+pot G (ff l x)<=l.length+pot G l:=by
 unfold ff
 split
 ·exact aM _
 ·rename_i h
  have:=zd l x (cq.2 h) G hx
  rw [bh,oz]
  omega

section
variable {P:Program} {w w0:World} {X:List Nat} {L:List Item} {S:ad} {K:Value->World->Prop}
theorem Inv.toEnd {it:Item} (h:Inv w0 X L S w) (i:Nat) (hi:L[i]?=some it):Inv w0 X ((L.take i++L.drop (i+1))++[it]) S w:=by
 obtain ⟨h1,_⟩:=rl hi it
 refine h.perm ?_
 conv=>rhs; rw [h1]
 rw [eI]
 exact uI _ co
theorem uU (h:Inv w0 X L S w) {T ty:TypeId} {cs:List Bool} {v:Value} {l:List Pd} {Ek:TypeId × Nat} (i:Nat) (hi:L[i]?=some (cW v l)) (hu:cB P T=some Ek)
  (hk:K (.int .i64 l.length) w):Run P (bH .len #[T] ty cs [v]) w K:=by
 obtain ⟨S1,_,hrd,_,_⟩:=(h.toEnd i hi).lend
 exact aF hrd.preds hu hk
theorem rb (h:Inv w0 X L S w) {T U ty ty' E:TypeId} {v:Value} {l:List Pd} (i:Nat) (hi:L[i]?=some (cW v l)) (hu:cB P T=some (E,2)) (hU:pL P U=some 2)
  {j:Nat} (hj:j<l.length) (hk:K (.agg l[j].cells.toArray) w) :
  Run P (sOp (.indexAddr T (.const v) (.const (.int .i64 j))) ty) w fun p w'=>Run P (sOp (.load U (.const p)) ty') w' K:=by
 obtain ⟨S1,_,hrd,hI,_⟩:=(h.toEnd i hi).lend
 exact cj hI hrd.preds hu hU hj (fun cs x h=>by rw [h]; rfl) fun cs hcs=>by rw [hcs]; exact hk
end

theorem md {ts:List T} {S:ad} {u v:Value} (l:List Pd) (h:RdSl S 4 (RdT S) u ts) (hl:l.length+ts.length<=1000000000):Tri Tryz.prog FI [v,u] [cW v l] S (pP S (bW l ts)):=by
 intro w hI
 obtain ⟨X,hX⟩:∃ X,X=bu [cW v l]:=⟨_,rfl⟩
 rw [<- hX] at hI ⊢
 refine rN.2 ?_
 dsimp only[rN,aO]
 refine ⟨fun i t w'=>∃ (k:Nat) (m:List Pd),k<=ts.length/\i=.int .i64 k/\bW m (ts.drop k)=bW l ts/\m.length<=l.length+k/\Inv w X [cW t m] S w',fun i _ _=>ts.length - (intOf i).toNat,⟨0,l,aR _,rfl,rfl,aM _,hI⟩,?_⟩
 intro t5 _ _ t0 _ _ _ _ _ _ _ _ _ _ _ _ _ _ _ _ w'
 rintro ⟨k,m,hk,rfl,hrel,hml,hI⟩
 refine aF h ah ?_
 refine bL ?_
 refine aH (fun hki=>?_) (fun hki=>?_)
 ·have hk':k<ts.length:=by omega
  rw [xE m ts k hk'] at hrel
  refine ⟨fun t w'=>Inv w X [cW t (if dg ts[k]=true then ff m (bE ts[k]) else m)] S w',?_,?_⟩
  ·refine cj hI h ah ac hk' (fun _ _=>RdT.length) fun cs hcs=>?_
   refine Run.callPure nq nK hI (lZ hcs) fun w' hI=>?_
   refine aw (fun hb=>?_) (fun hb=>?_)
   ·refine cj hI h ah ac hk' (fun _ _=>RdT.length) fun cs hcs=>?_
    refine Run.callPure sO sB hI (lH hcs) fun w' hI=>?_
    refine Run.call (A:=[]) yu yX hI (vb (bE ts[k]) m t0 S (by omega)) fun v' I' S' w'=>?_
    rintro ⟨rfl,rfl⟩ _ hI
    rw [ai hb]
    exact hI
   ·rw [af (by rw [hb]; decide)]
    exact hI
  ·intro t0 _ _ _ _ _ _ _ _ _ _ _ _ w' hI
   refine bn (by omega) ?_
   refine ⟨⟨k+1,_,hk',rfl,hrel,?_,hI⟩,by simp [intOf]; omega⟩
   have:=AM m (bE ts[k])
   split <;> omega
 ·have:k=ts.length:=by omega
  subst this
  rw [dP] at hrel
  have hrel:m=bW l ts:=hrel
  rw [<- hrel]
  exact ⟨_,_,_,rfl,hI,Ext.refl _ _ _,rfl,rfl⟩
end
section
open Go Go.RowKit
attribute [local irreducible] Run CondV aq aK

theorem pY {ts:List T} {S:ad} {u v:Value} (l:List Pd) (h:RdSl S 4 (RdT S) u ts) (hl:l.length+ts.length<=1000000000):Tri Tryz.prog Ko [u,v] [cW v l] S (pP S (bW l ts)):=by
 intro w hI
 obtain ⟨X,hX⟩:∃ X,X=bu [cW v l]:=⟨_,rfl⟩
 rw [<- hX] at hI ⊢
 refine yV.2 ?_
 dsimp only[yV,aO]
 refine aF h ah ?_
 refine ⟨fun i t w'=>∃ (k:Nat) (m:List Pd),k<=ts.length/\i=.int .i64 k/\bW m (ts.drop k)=bW l ts/\m.length<=l.length+k/\Inv w X [cW t m] S w',fun i _ _=>ts.length - (intOf i).toNat,⟨0,l,aR _,rfl,rfl,aM _,hI⟩,?_⟩
 intro t9 _ t1 _ _ _ _ _ _ _ _ _ _ w'
 rintro ⟨k,m,hk,rfl,hrel,hml,hI⟩
 refine bL ?_
 refine aH (fun hki=>?_) (fun hki=>?_)
 ·have hk':k<ts.length:=by omega
  rw [xE m ts k hk'] at hrel
  refine ⟨fun t w'=>Inv w X [cW t (if dg ts[k]=true then ff m (bE ts[k]) else m)] S w',?_,?_⟩
  ·refine cj hI h ah ac hk' (fun _ _=>RdT.length) fun cs hcs=>?_
   have hlc:=hcs.length
   refine aP hI aZ fun b6 w' hI=>?_
   refine aA hI 1 rfl ac (by simpa using hlc) rfl (by simpa using hcs.one) fun w' hI=>?_
   refine az hI 1 ac rfl (by simpa using hlc) ?_
   refine Run.callPure nD nf hI (lS hcs) fun w' hI=>?_
   refine aw (fun hb=>?_) (fun hb=>?_)
   ·refine az hI 1 ac rfl (by simpa using hlc) ?_
    refine Run.callPure rg ro hI (jv hcs) fun w' hI=>?_
    have hI:=hI.pick [true,false]
    refine Run.call (A:=[]) tD uH hI (sd (bE ts[k]) m t1 S (by omega)) fun v' I' S' w'=>?_
    rintro ⟨rfl,rfl⟩ _ hI
    rw [ai hb]
    exact hI
   ·rw [af (by rw [hb]; decide)]
    exact hI.pick [true,false]
  ·intro t0 _ _ _ _ _ _ _ _ _ w' hI
   refine bn (by omega) ?_
   refine ⟨⟨k+1,_,hk',rfl,hrel,?_,hI⟩,by simp [intOf]; omega⟩
   have:=AM m (bE ts[k])
   split <;> omega
 ·have:k=ts.length:=by omega
  subst this
  rw [dP] at hrel
  have hrel:m=bW l ts:=hrel
  rw [<- hrel]
  exact ⟨_,_,_,rfl,hI,Ext.refl _ _ _,rfl,rfl⟩

theorem SD:∀ (p:List C) (k:Nat) (h:k<p.length),p[k].body.length+(gPs (p.drop (k+1))).length=(gPs (p.drop k)).length:=by
 intro p k h
 rw [di h,vZ]

theorem wM {p:List C} {S:ad} {v:Value} (x:Pd) (h:RdSl S 5 (RdC S) v p) (hw:wP p<=1100000):Tri Tryz.prog uz [v,.agg x.cells.toArray] [] S (pP S (dq p x)):=by
 intro w hI
 have hlen:=h.le
 simp only [maxLen] at hlen
 have hg:=BP p
 obtain ⟨xs,xn⟩:=x
 refine r9.2 ?_
 dsimp only[r9,aO]
 refine bp hI fun b3 w' hI=>?_
 refine d3 hI fT fun v0 w' hI=>?_
 refine ⟨fun i t w'=>∃ (k:Nat) (l:List Pd),k<=p.length/\i=.int .i64 k/\dd l (p.drop k) ⟨xs,xn⟩=dq p ⟨xs,xn⟩/\l.length+(gPs (p.drop k)).length<=1100000/\
   Inv w [] [.blk b3 (.cells #[.string xs,.int .i64 xn] bf),cW t l] S w',fun i _ _=>p.length - (intOf i).toNat,⟨0,[],aR _,rfl,rfl,by simp; omega,hI⟩,?_⟩
 intro t6 _ _ t5 _ _ _ _ _ _ _ t21 t20 t19 t18 t17 t16 t15 t14 _ _ _ _ w'
 rintro ⟨k,l,hk,rfl,hrel,hl,hI⟩
 refine aF h bi ?_
 refine bL ?_
 refine aH (fun hki=>?_) (fun hki=>?_)
 ·have hk':k<p.length:=by omega
  rw [Cd l p _ k hk'] at hrel
  have hgk:=SD p k hk'
  have hgl:=iE p[k].body l
  refine ⟨fun t w'=>Inv w [] [.blk b3 (.cells #[.string xs,.int .i64 xn] bf),cW t (if eC (bE p[k].head) ⟨xs,xn⟩=true then bW l p[k].body else l)] S w',?_,?_⟩
  ·obtain ⟨b,o,cap,c,E,fz,rfl,hS,hR⟩:=h.at_ hk'
   obtain ⟨hd,ks2,hcs,h1,h2⟩:=hR
   obtain ⟨kv,rfl,_,_,hs1,hk1⟩:=RdT.iff.1 h1
   refine ⟨fun D s5 pf pH BX mZ vm Cq wb w_=>Fx D 0 [wb=.slice (some ⟨b,o,none⟩) p.length cap,Cq=.int .i64 k,vm=.pointer (some ⟨b,o+k * 5,none⟩),mZ=.pointer (some ⟨b,o+k * 5,none⟩),BX=.agg #[.int .i64 p[k].head.kind,.int .i64 p[k].head.n,.string p[k].head.name,kv],pH=.agg #[.string p[k].head.name,.int .i64 p[k].head.kids.length],pf=.agg #[.string xs,.int .i64 xn],s5=.bool (eC (bE p[k].head) ⟨xs,xn⟩)]/\Inv w [] [.blk b3 (.cells #[.string xs,.int .i64 xn] bf),cW t5 l] S w_,⟨Fx.nil _ _,hI.draw⟩,⟨?_,?_,?_,?_,?_,?_,?_,?_,trivial⟩,?_⟩
   all_goals (intro D bI; intros; rename_i s5 pf pH BX mZ vm Cq wb w_ hA_; have hF_:=hA_.1; obtain ⟨⟨cJ,cH,cK,cI,cN,cP,cz,dC,_⟩,hI⟩:=hA_)
   ·exact ⟨hF_.set 0 rfl,hI⟩
   ·exact ⟨hF_.set 1 rfl,hI⟩
   ·obtain rfl:=cJ ‹_›
    obtain rfl:=cH ‹_›
    refine aD bi hk' ?_
    exact ⟨hF_.set 2 rfl,hI⟩
   ·obtain rfl:=cK ‹_›
    refine aC bZ ?_
    exact ⟨hF_.set 3 rfl,hI⟩
   ·obtain rfl:=cI ‹_›
    refine cm (cs:=[.int .i64 p[k].head.kind,.int .i64 p[k].head.n,.string p[k].head.name,kv]) ac rfl (fun j v hj=>by rw [hI.cellS hS]; exact aL hcs j v (by match j,hj with|0,hj=>exact hj|1,hj=>exact hj|2,hj=>exact hj|3,hj=>exact hj|j+4,hj=>simp at hj)) ?_
    exact ⟨hF_.set 4 rfl,hI⟩
   ·obtain rfl:=cN ‹_›
    refine Run.callPure sO sB hI (lH h1) fun w_ hI=>?_
    exact ⟨hF_.set 5 rfl,hI⟩
   ·refine az hI 0 cO rfl rfl ?_
    exact ⟨hF_.set 6 rfl,hI⟩
   ·obtain rfl:=cP ‹_›
    obtain rfl:=cz ‹_›
    refine FK ?_
    exact ⟨hF_.set 7 rfl,hI⟩
   obtain ⟨rfl,rfl,rfl,rfl,rfl,rfl,rfl,rfl,_⟩:=hF_.all
   clear hF_ cJ cH cK cI cN cP cz dC
   refine aw (fun hb=>?_) (fun hb=>?_)
   ·refine aD bi hk' ?_
    refine aC bo ?_
    refine cA ao (by rw [hI.cellS hS]; exact aL hcs 4 _ rfl) ?_
    refine Run.call (A:=[_]) rZ sr hI (md l h2 (by omega)) fun v' I' S' w'=>?_
    rintro ⟨rfl,rfl⟩ _ hI
    rw [ai hb]
    exact hI
   ·rw [af (by rw [hb]; decide)]
    exact hI
  ·intro t5 _ _ _ _ _ _ _ _ _ _ _ _ _ _ _ w' hI
   refine bn (by omega) ?_
   refine ⟨⟨k+1,_,hk',rfl,hrel,?_,hI⟩,by simp [intOf]; omega⟩
   split <;> omega
 ·have:k=p.length:=by omega
  subst this
  rw [dP] at hrel
  have hrel:l=dq p ⟨xs,xn⟩:=hrel
  rw [<- hrel]
  exact ⟨_,_,_,rfl,hI.pick [false,true],Ext.refl _ _ _,rfl,rfl⟩

def nM (p:List C) (l:List Pd) (ns:List Int):List Pd:=ns.foldl (fun l n=>match p[n.toNat]? with|some c=>bW l c.body|none=>l) l
theorem yC (p:List C) (x:Pd):∀ (q:List C) (k:Nat) (l:List Pd),p.drop k=q->nM p l (ez (fun c=>eC (bE c.head) x) q k)=dd l q x
 | [],k,l,_=>rfl
 | c::q,k,l,e=>by
  have hk:k<p.length:=by
   have:(p.drop k).length=(c::q).length:=by rw [e]
   simp at this; omega
  have hc:p[k]?=some c:=by
   have:=di hk
   rw [e] at this
   rw [iR hk]
   simp only [jl] at this
   rw [<- this.1]
  have e':p.drop (k+1)=q:=by rw [<- DP,e]; rfl
  have hrec:=yC p x q (k+1)
  rw [ez]
  by_cases hx:eC (bE c.head) x=true
  ·rw [ai hx]
   have:nM p l ((k:Int)::ez (fun c=>eC (bE c.head) x) q (k+1))=nM p (bW l c.body) (ez (fun c=>eC (bE c.head) x) q (k+1)):=by
    simp only [nM,List.foldl_cons,dF,hc]
   rw [this,hrec _ e']
   show _=dd (if eC (bE c.head) x=true then bW l c.body else l) q x
   rw [ai hx]
  ·rw [af hx,hrec _ e']
   show _=dd (if eC (bE c.head) x=true then bW l c.body else l) q x
   rw [af hx]
def nX (p:List C) (ns:List Int):Nat:=(ns.map fun n=>match p[n.toNat]? with|some c=>c.body.length|none=>0).sum
theorem yv (p:List C) (f:C->Bool):∀ (q:List C) (k:Nat),p.drop k=q->nX p (ez f q k)<=(gPs q).length
 | [],k,_=>aR _
 | c::q,k,e=>by
  have hk:k<p.length:=by
   have:(p.drop k).length=(c::q).length:=by rw [e]
   simp at this; omega
  have hc:p[k]?=some c:=by
   have:=di hk
   rw [e] at this
   rw [iR hk]
   simp only [jl] at this
   rw [<- this.1]
  have e':p.drop (k+1)=q:=by rw [<- DP,e]; rfl
  have hrec:=yv p f q (k+1) e'
  rw [ez,vZ]
  split
  ·have:nX p ((k:Int)::ez f q (k+1))=c.body.length+nX p (ez f q (k+1)):=by
    simp only [nX,pj,List.sum_cons,dF,hc]
   omega
  ·omega

theorem zF {p:List C} {S:ad} {v:Value} (x:Pd) (h:RdSl S 5 (RdC S) v p) (hp:p.length<=1100000) (hw:wP p<=1100000):Tri Tryz.prog yI [v,.agg x.cells.toArray] [] S (pP S (dq p x)):=by
 intro w hI
 have hg:=BP p
 have hcall:=yC p x p 0 [] rfl
 have hb:=yv p (fun c=>eC (bE c.head) x) p 0 rfl
 have hn:=mQ (fun c=>eC (bE c.head) x) p 0
 have hat:=vj (fun c=>eC (bE c.head) x) p 0
 obtain ⟨xs,xn⟩:=x
 refine tW.2 ?_
 dsimp only[tW,aO]
 refine bp hI fun b3 w' hI=>?_
 refine az hI 0 cO rfl rfl ?_
 refine Run.call0 oG oD hI (mH ⟨xs,xn⟩ h (by omega)) fun v1 I' S2 w_=>?_
 rintro ⟨rfl,rfl⟩ _ hI
 generalize ez (fun c=>eC (bE c.head) ⟨xs,xn⟩) p 0=ns at hcall hb hn hat hI
 have hI:Inv w [] ([.blk b3 (.cells #[.string xs,.int .i64 xn] bf)]++[dX v1 ns]) S2 w_:=hI
 obtain ⟨S1,hle,hrd,hI,_⟩:=hI.lend
 have hr:=hrd.ints
 have h':=h.monoC hle
 refine aF hr dD ?_
 refine ⟨fun i t w'=>∃ (k:Nat) (l:List Pd),k<=ns.length/\i=.int .i64 k/\nM p l (ns.drop k)=dq p ⟨xs,xn⟩/\l.length+nX p (ns.drop k)<=1100000/\
   Inv w [] [.blk b3 (.cells #[.string xs,.int .i64 xn] bf),cW t l] S1 w',fun i _ _=>ns.length - (intOf i).toNat,⟨0,[],aR _,rfl,hcall,by simp; omega,hI.rowNil bf 2⟩,?_⟩
 intro t12 _ t5 _ _ _ _ _ _ _ _ _ _ _ w'
 rintro ⟨k,l,hk,rfl,hrel,hl,hI⟩
 refine bL ?_
 refine aH (fun hki=>?_) (fun hki=>?_)
 ·have hk':k<ns.length:=by omega
  obtain ⟨j,_,hj0,hj,_⟩:=hat ns[k] (bQ hk')
  have hj0:ns[k]=(j:Int):=by omega
  rw [di hk'] at hrel hl
  have hpj:p[ns[k].toNat]?=some p[j]:=by rw [hj0,dF,iR hj]
  have hrel:nM p (bW l p[j].body) (ns.drop (k+1))=dq p ⟨xs,xn⟩:=by
   rw [<- hrel]
   simp only [nM,List.foldl_cons,hpj]
  have hl:l.length+(p[j].body.length+nX p (ns.drop (k+1)))<=1100000:=by
   simp only [nX,pj,List.sum_cons,hpj] at hl
   exact hl
  have hgl:=iE p[j].body l
  refine hY hI hr dD aI hk' (fun cs hcs=>hcs) ?_
  rw [hj0]
  obtain ⟨b,o,cap,c,E,fz,rfl,hS,hR⟩:=h'.at_ hj
  obtain ⟨hd,ks2,hcs,h1,h2⟩:=hR
  obtain ⟨kv,rfl,_⟩:=RdT.iff.1 h1
  refine aD bi hj ?_
  refine aC bo ?_
  refine cA ao (by rw [hI.cellS hS]; exact aL hcs 4 _ rfl) ?_
  refine Run.call (A:=[_]) xH xY hI (pY l h2 (by omega)) fun v' I' S' w'=>?_
  rintro ⟨rfl,rfl⟩ _ hI
  refine bn (by omega) ?_
  exact ⟨⟨k+1,_,hk',rfl,hrel,by omega,hI⟩,by simp [intOf]; omega⟩
 ·have:k=ns.length:=by omega
  subst this
  rw [dP] at hrel
  have hrel:l=dq p ⟨xs,xn⟩:=hrel
  rw [<- hrel]
  exact ⟨_,_,_,rfl,(hI.less hle).pick [false,true],Ext.refl _ _ _,rfl,rfl⟩
end
section
open Go Go.RowKit
attribute [local irreducible] Run CondV aq aK

theorem AX (n:Nat) (p:List C) (l:List Pd) (i:Nat) (h:¬ i<l.length):fi n p l i=l:=by
 cases n with
 | zero=>rfl
 | succ n=>rw [fi,dif_neg h]
theorem MJ (l:List Pd) (x:Pd):l.length<=(ff l x).length:=by
 unfold ff
 split
 ·exact aM _
 ·simp
theorem xb {p:List C} {S:ad} {pv v:Value} (l:List Pd) (h:RdSl S 5 (RdC S) pv p) (hp:p.length<=1100000) (hw:wP p<=1100000) (hl:l.length<=1100000) :
  Tri Tryz.prog Fw [pv,v] [cW v l] S (pP S (fP p l)):=by
 intro w hI
 have hg:=BP p
 have:p.length+wP p<=2200000:=by omega
 obtain ⟨X,hX⟩:∃ X,X=bu [cW v l]:=⟨_,rfl⟩
 rw [<- hX] at hI ⊢
 refine rX.2 ?_
 dsimp only[rX,aO]
 obtain ⟨M,hM⟩:∃ M,M=l.length+(gPs p).length:=⟨_,rfl⟩
 have hr:fP p l=fi M p l 0:=by rw [fP,hM]
 rw [hr]
 have hpot:=Le (gPs p) l
 refine ⟨fun i t w'=>∃ (k:Nat) (m:List Pd),k<=m.length/\i=.int .i64 k/\fi (M - k) p m k=fi M p l 0/\m.length+pot (gPs p) m<=M/\Inv w X [cW t m] S w',fun i _ _=>M - (intOf i).toNat,⟨0,l,aR _,rfl,rfl,by omega,hI⟩,?_⟩
 intro t6 _ _ _ _ t5 _ _ _ _ _ _ _ _ _ _ _ _ _ _ _ _ _ _ _ _ _ _ w'
 rintro ⟨k,m,hk,rfl,hrel,hm,hI⟩
 refine uU hI 0 rfl eo ?_
 refine bL ?_
 refine aH (fun hki=>?_) (fun hki=>?_)
 ·have hk':k<m.length:=by omega
  obtain ⟨n,hn⟩:∃ n,M - k=n+1:=⟨M - k - 1,by omega⟩
  rw [hn,fi,dif_pos hk'] at hrel
  refine rb hI 0 rfl eo cO hk' ?_
  have hc:=Aj p m[k]
  have hcm:∀ y∈dq p m[k],y∈gPs p:=fun y hy=>sN hy
  have hcalls:∀ x:Pd,Tri Tryz.prog uz [pv,.agg x.cells.toArray] [] S (pP S (dq p x)):=fun x=>wM x h hw
  refine Run.call0 C0 CX hI (hcalls m[k]) fun u I' S2 w'=>?_
  rintro ⟨rfl,rfl⟩ _ hI
  generalize dq p m[k]=cs at hc hcm hrel hI
  have hI:=hI.perm (M:=[cW u cs,cW t5 m]) (List.Perm.swap _ _ _)
  refine ⟨fun i t w'=>∃ (j:Nat) (m':List Pd),j<=cs.length/\i=.int .i64 j/\dL m' (cs.drop j)=dL m cs/\m'.length+pot (gPs p) m'<=M/\m.length<=m'.length/\Inv w X [cW u cs,cW t m'] S2 w',fun i _ _=>cs.length - (intOf i).toNat,⟨0,m,aR _,rfl,rfl,hm,aM _,hI⟩,?_⟩
  intro t8 _ _ t5 _ _ _ _ _ _ _ _ _ _ w'
  rintro ⟨j,m',hj,rfl,hrel2,hm',hmm,hI⟩
  refine uU hI 0 rfl eo ?_
  refine bL ?_
  refine aH (fun hji=>?_) (fun hji=>?_)
  ·have hj':j<cs.length:=by omega
   rw [yw m' cs j hj'] at hrel2
   have hpp:=Bg (l:=m') (hcm _ (bQ hj'))
   have hge:=MJ m' cs[j]
   refine rb hI 0 rfl eo cO hj' ?_
   refine Run.call (A:=[_]) yu yX hI (vb cs[j] m' t5 S2 (by omega)) fun v' I' S3 w'=>?_
   rintro ⟨rfl,rfl⟩ _ hI
   refine bn (by omega) ?_
   exact ⟨⟨j+1,_,hj',rfl,hrel2,by omega,by omega,hI⟩,by simp [intOf]; omega⟩
  ·have:j=cs.length:=by omega
   subst this
   rw [dP] at hrel2
   have hrel2:m'=dL m cs:=hrel2
   subst hrel2
   refine bn (by omega) ?_
   exact ⟨⟨k+1,_,by omega,rfl,by rw [show M - (k+1)=n by omega]; exact hrel,hm',hI.pick [false,true]⟩,by simp [intOf]; omega⟩
 ·have:k=m.length:=by omega
  rw [AX _ _ _ _ (by omega)] at hrel
  rw [<- hrel]
  exact ⟨_,_,_,rfl,hI,Ext.refl _ _ _,rfl,rfl⟩
theorem Dw {p:List C} {S:ad} {pv v:Value} (l:List Pd) (h:RdSl S 5 (RdC S) pv p) (hp:p.length<=1100000) (hw:wP p<=1100000) (hl:l.length<=1100000) :
  Tri Tryz.prog M5 [pv,v] [cW v l] S (pP S (fP p l)):=by
 intro w hI
 have hg:=BP p
 have:p.length+wP p<=2200000:=by omega
 obtain ⟨X,hX⟩:∃ X,X=bu [cW v l]:=⟨_,rfl⟩
 rw [<- hX] at hI ⊢
 refine BF.2 ?_
 dsimp only[BF,aO]
 obtain ⟨M,hM⟩:∃ M,M=l.length+(gPs p).length:=⟨_,rfl⟩
 have hr:fP p l=fi M p l 0:=by rw [fP,hM]
 rw [hr]
 have hpot:=Le (gPs p) l
 refine ⟨fun i t w'=>∃ (k:Nat) (m:List Pd),k<=m.length/\i=.int .i64 k/\fi (M - k) p m k=fi M p l 0/\m.length+pot (gPs p) m<=M/\Inv w X [cW t m] S w',fun i _ _=>M - (intOf i).toNat,⟨0,l,aR _,rfl,rfl,by omega,hI⟩,?_⟩
 intro t5 _ _ _ t1 _ _ _ _ _ _ _ _ _ _ _ _ _ _ _ _ _ _ _ w'
 rintro ⟨k,m,hk,rfl,hrel,hm,hI⟩
 refine uU hI 0 rfl eo ?_
 refine bL ?_
 refine aH (fun hki=>?_) (fun hki=>?_)
 ·have hk':k<m.length:=by omega
  obtain ⟨n,hn⟩:∃ n,M - k=n+1:=⟨M - k - 1,by omega⟩
  rw [hn,fi,dif_pos hk'] at hrel
  refine rb hI 0 rfl eo cO hk' ?_
  have hc:=Aj p m[k]
  have hcm:∀ y∈dq p m[k],y∈gPs p:=fun y hy=>sN hy
  have hcalls:∀ x:Pd,Tri Tryz.prog yI [pv,.agg x.cells.toArray] [] S (pP S (dq p x)):=fun x=>zF x h hp hw
  refine Run.call0 FS Hf hI (hcalls m[k]) fun u I' S2 w'=>?_
  rintro ⟨rfl,rfl⟩ _ hI
  generalize dq p m[k]=cs at hc hcm hrel hI
  have hI:=hI.perm (M:=[cW u cs,cW t1 m]) (List.Perm.swap _ _ _)
  refine uU hI 0 rfl eo ?_
  refine ⟨fun i t w'=>∃ (j:Nat) (m':List Pd),j<=cs.length/\i=.int .i64 j/\dL m' (cs.drop j)=dL m cs/\m'.length+pot (gPs p) m'<=M/\m.length<=m'.length/\Inv w X [cW u cs,cW t m'] S2 w',fun i _ _=>cs.length - (intOf i).toNat,⟨0,m,aR _,rfl,rfl,hm,aM _,hI⟩,?_⟩
  intro t21 _ t1 _ _ _ _ _ _ _ w'
  rintro ⟨j,m',hj,rfl,hrel2,hm',hmm,hI⟩
  refine bL ?_
  refine aH (fun hji=>?_) (fun hji=>?_)
  ·have hj':j<cs.length:=by omega
   rw [yw m' cs j hj'] at hrel2
   have hpp:=Bg (l:=m') (hcm _ (bQ hj'))
   have hge:=MJ m' cs[j]
   refine rb hI 0 rfl eo cO hj' ?_
   refine aP hI BN fun b7 w' hI=>?_
   refine aA hI 2 rfl cO rfl rfl (by simp [Pd.cells,Value.oneCell']) fun w' hI=>?_
   refine az hI 2 cO rfl rfl ?_
   have hI:=hI.pick [true,true,false]
   refine Run.call (A:=[_]) tD uH hI (sd cs[j] m' t1 S2 (by omega)) fun v' I' S3 w'=>?_
   rintro ⟨rfl,rfl⟩ _ hI
   refine bn (by omega) ?_
   exact ⟨⟨j+1,_,hj',rfl,hrel2,by omega,by omega,hI⟩,by simp [intOf]; omega⟩
  ·have:j=cs.length:=by omega
   subst this
   rw [dP] at hrel2
   have hrel2:m'=dL m cs:=hrel2
   subst hrel2
   refine bn (by omega) ?_
   exact ⟨⟨k+1,_,by omega,rfl,by rw [show M - (k+1)=n by omega]; exact hrel,hm',hI.pick [false,true]⟩,by simp [intOf]; omega⟩
 ·have:k=m.length:=by omega
  rw [AX _ _ _ _ (by omega)] at hrel
  rw [<- hrel]
  exact ⟨_,_,_,rfl,hI,Ext.refl _ _ _,rfl,rfl⟩
end
section
open Go Go.RowKit
attribute [local irreducible] Run CondV aq aK
end
section
open Go Go.RowKit
attribute [local irreducible] Run CondV aq aK

def fl (l:List Pd) (p:List C):List Pd:=p.foldl (fun l c=>ff l (bE c.head)) l
def zQ (p:List C):List Pd:=if ci p=true then fl [] p else []
def Ul (p:List C) (x:Pd):List Pd:=if ci p=true then dq p x else []
def uk (p:List C) (q:List T):List Pd:=if (ci p && bT q)=true then fP p (bW [] q) else []
theorem zz {p:List C} {q:List T} {S:ad} {v u:Value} (h:RdSl S 5 (RdC S) v p) (hq:RdSl S 4 (RdT S) u q) (hw:p.length+wP p<=1048576) (hw2:q.length+wL q<=1048576):Tri Tryz.prog Hy [v,u] [] S (pP S (uk p q)):=by
 intro w hI
 have hgl:=iE q []
 refine tE.2 ?_
 dsimp only[tE,aO]
 refine ⟨fun t w'=>t=.bool (!(ci p && bT q))/\Inv w [] [] S w',?_,?_⟩
 ·refine Run.callPure hH g9 hI (gi h) fun w' hI=>?_
  refine ct ?_
  cases hv:ci p
  ·refine rpG ?_
   exact ⟨rfl,hI⟩
  ·refine rpG ?_
   refine Run.callPure jh je hI (gS hq) fun w' hI=>?_
   refine ct ?_
   refine rpG ?_
   exact ⟨rfl,hI⟩
 intro t _ _ _ _ _ _ _ w'
 rintro ⟨rfl,hI⟩
 refine aw (fun hb=>?_) (fun hb=>?_)
 ·rw [uk,af (by rw [oN] at hb; rw [hb]; decide)]
  exact ⟨_,_,_,rfl,hI.rowNil bf 2,Ext.refl _ _ _,rfl,rfl⟩
 ·rw [uk,ai (by simpa using hb)]
  refine Run.call (A:=[]) xH xY (hI.rowNil bf 2) (pY [] hq (by simp; omega)) fun v' I' S' w'=>?_
  rintro ⟨rfl,rfl⟩ _ hI
  refine Run.call (A:=[]) Kx Ke hI (Dw (bW [] q) h (by omega) (by omega) (by simp at hgl; omega)) fun v' I' S' w'=>?_
  rintro ⟨rfl,rfl⟩ _ hI
  exact ⟨_,_,_,rfl,hI,Ext.refl _ _ _,rfl,rfl⟩
end
section
open Go Go.ChangeShapes Go.WideShapes Go.ChangeAt Go.RowKit
section
attribute [local irreducible] Run CondV aq aK
end
theorem two {cs:List Value} (h:cs.length=2):∃ a b,cs=[a,b]:=by
 match cs,h with
 | [a,b],_=>exact ⟨a,b,rfl⟩
end
section
open Go Go.RowKit
section
variable {br:Nat} {sl:Value} {ys:List Nat}
attribute [local irreducible] Run CondV aq aK
theorem Pd.one (x:Pd):∀ u∈x.cells,u.oneCell'=true:=by
 intro u hu
 have hu':u∈([.string x.name,.int .i64 x.arity]:List Value):=hu
 simp at hu'
 rcases hu' with rfl|rfl <;> rfl
end
end
section
open Go Go.ChangeShapes Go.WideShapes Go.ChangeAt Go.RowKit
theorem Tq:Tryz.prog.underlying Hh=some (.int .u8):=by kernel_rfl
theorem QT {H:Type} {enc:TypeId × Value->H} {W:World} {sp:Nat->Bool} {held:Bool} {fuel:Nat} {cs:List Value} {x:DataW H × List MemPlace} (h:DataW.trod enc Tryz.prog W 0 sp held fuel Hh cs=some x) :
  ∃ n,jB cs n:=by
 cases fuel with
 | zero=>simp [DataW.trod] at h
 | succ n=>
  unfold DataW.trod at h
  rw [Tq] at h
  split at h <;> simp_all
  rename_i k1 k2 m he
  subst he
  obtain ⟨⟨_,h⟩,_⟩:=h
  simp only [Lit.wf,bN,bC] at h
  have h1:0<=m/\m<=255:=h
  exact ⟨m.toNat,by rw [jB,Oo (by omega)]; exact ⟨rfl,by omega⟩⟩
theorem LH {H:Type} {enc:TypeId × Value->H} {W:World} {sp:Nat->Bool} {held:Bool} {fuel:Nat} {v:Value} {x:DataW H × List MemPlace} (h:DataW.trod enc Tryz.prog W 0 sp held fuel Ir [v]=some x) :
  ∃ ys,RdSl (LT W) 1 jB v ys:=PW dS (by omega) h fun _ _ _ _ hy=>QT hy
section
variable {w0 w:World} {X:List Nat} {L:List Item} {S:ad} {K:Value->World->Prop}
attribute [local irreducible] Run CondV aq aK
theorem Ry {P:Program} {T:TypeId} {cx cy:Bool} {a b:Bool} (hu:P.underlying T=some .bool) (hk:K (.bool (a == b)) w):Run P (cw .eql T cx cy (.bool a) (.bool b)) w K:=
 Run.of (by
  have he:(Op.equal T (.bool a) (.bool b)).run P w=.ok (a == b) w:=by
   rw [Op.equal,Op.maxDepth,Op.equalIn.eq_def]
   simp [run_underlying hu]
  simp only [cw,binOp,Sem.run_bind,vQ,Result.andThen_ok,he,Sem.run_pure]) hk
theorem NW (t:T):eqT t t=true:=(Mw t t).2 rfl
theorem sI {c0 d0:C} {cs ds:List Value} (h:RdC S cs c0) (g:RdC S ds d0):Pure Tryz.prog pJ [.agg cs.toArray,.agg ds.toArray] S (.bool (eqT c0.head d0.head && eqL c0.body d0.body)):=by
 intro w hI
 obtain ⟨hd,kb,rfl,h1,h2⟩:=h
 obtain ⟨hd',kb',rfl,g1,g2⟩:=g
 have h1':=h1
 have g1':=g1
 obtain ⟨kv,rfl,_⟩:=RdT.iff.1 h1
 obtain ⟨kv',rfl,_⟩:=RdT.iff.1 g1
 refine oE.2 ?_
 dsimp only[oE,aO]
 refine bp hI fun b1 w' hI=>?_
 refine bp hI fun b2 w' hI=>?_
 have hI:Inv w [] [.blk b1 (.cells #[.int .i64 c0.head.kind,.int .i64 c0.head.n,.string c0.head.name,kv,kb] ag),.blk b2 (.cells #[.int .i64 d0.head.kind,.int .i64 d0.head.n,.string d0.head.name,kv',kb'] ag)] S w':=hI
 refine aC bZ ?_
 refine ey hI 0 [.int .i64 c0.head.kind,.int .i64 c0.head.n,.string c0.head.name,kv] ac rfl rfl Jp ?_
 refine aC bZ ?_
 refine ey hI 1 [.int .i64 d0.head.kind,.int .i64 d0.head.n,.string d0.head.name,kv'] ac rfl rfl Jp ?_
 refine Run.callPure lK l3 hI (fW _ _ S _ _ h1' g1') fun w' hI=>?_
 cases he:eqT c0.head d0.head
 ·refine rpG ?_
  exact done hI (by rw [gJ])
 ·refine rpG ?_
  refine ae hI 0 rfl bo ao rfl ?_
  refine ae hI 1 rfl bo ao rfl ?_
  refine Run.callPure gj gn hI (nl (fun t _=>fW t) h2 g2) fun w' hI=>?_
  refine rpG ?_
  exact done hI (by rw [dU])
theorem zr {c0:C} {cs ds:List Value} (h:RdC S cs c0) (g:RdC S ds c0):Pure Tryz.prog pJ [.agg cs.toArray,.agg ds.toArray] S (.bool true):=by
 have:=sI h g
 rwa [NW,(uX _ _).2 rfl] at this
theorem i8 {p:List C} {u v:Value} (h:RdSl S 5 (RdC S) u p) (g:RdSl S 5 (RdC S) v p):Pure Tryz.prog Dd [u,v] S (.bool true):=by
 intro w hI
 have hlen:=h.le
 simp only [maxLen] at hlen
 refine qL.2 ?_
 dsimp only[qL,aO]
 refine aF h bi ?_
 refine aF g bi ?_
 refine gV ?_
 refine aw (fun hb=>by simp at hb) (fun _=>?_)
 refine ⟨fun i w'=>∃ k:Nat,k<=p.length/\i=.int .i64 k/\Inv w [] [] S w',fun i _=>p.length - (intOf i).toNat,⟨0,aR _,rfl,hI⟩,?_⟩
 intro t5 _ _ _ t26 t25 t24 t23 t22 t21 t20 t19 t18 t17 _ _ _ _ w'
 rintro ⟨k,hk,rfl,hI⟩
 refine aF h bi ?_
 refine bL ?_
 refine aH (fun hki=>?_) (fun hki=>done hI rfl)
 have hk':k<p.length:=by omega
 obtain ⟨b,o,cap,c,E,fz,rfl,hS,hR⟩:=h.at_ hk'
 obtain ⟨b2,o2,cap2,c2,E2,fz2,rfl,hS2,hR2⟩:=g.at_ hk'
 refine ⟨fun D qm ge pu z5 Cm s5 pf pH BX mZ w_=>Fx D 0 [mZ=.slice (some ⟨b,o,none⟩) p.length cap,BX=.int .i64 k,pH=.pointer (some ⟨b,o+k * 5,none⟩),pf=.agg (ba c (o+k * 5) 5).toArray,s5=.slice (some ⟨b2,o2,none⟩) p.length cap2,Cm=.int .i64 k,z5=.pointer (some ⟨b2,o2+k * 5,none⟩),pu=.agg (ba c2 (o2+k * 5) 5).toArray,ge=.bool true,qm=.bool false]/\Inv w [] [] S w_,⟨Fx.nil _ _,hI.draw⟩,⟨?_,?_,?_,?_,?_,?_,?_,?_,?_,?_,trivial⟩,?_⟩
 all_goals (intro D bI; intros; rename_i qm ge pu z5 Cm s5 pf pH BX mZ w_ hA_; have hF_:=hA_.1; obtain ⟨⟨cJ,cH,cK,cI,cN,cP,cz,dC,ek,fZ,_⟩,hI⟩:=hA_)
 ·exact ⟨hF_.set 0 rfl,hI⟩
 ·exact ⟨hF_.set 1 rfl,hI⟩
 ·obtain rfl:=cJ ‹_›
  obtain rfl:=cH ‹_›
  refine aD bi hk' ?_
  exact ⟨hF_.set 2 rfl,hI⟩
 ·obtain rfl:=cK ‹_›
  refine cm be hR.length (fun j v hj=>by rw [hI.cellS hS]; exact aL rfl j v hj) ?_
  exact ⟨hF_.set 3 rfl,hI⟩
 ·exact ⟨hF_.set 4 rfl,hI⟩
 ·exact ⟨hF_.set 5 rfl,hI⟩
 ·obtain rfl:=cN ‹_›
  obtain rfl:=cP ‹_›
  refine aD bi hk' ?_
  exact ⟨hF_.set 6 rfl,hI⟩
 ·obtain rfl:=cz ‹_›
  refine cm be hR2.length (fun j v hj=>by rw [hI.cellS hS2]; exact aL rfl j v hj) ?_
  exact ⟨hF_.set 7 rfl,hI⟩
 ·obtain rfl:=cI ‹_›
  obtain rfl:=dC ‹_›
  refine Run.callPure zG zi hI (zr hR hR2) fun w_ hI=>?_
  exact ⟨hF_.set 8 rfl,hI⟩
 ·obtain rfl:=ek ‹_›
  refine ct ?_
  exact ⟨hF_.set 9 rfl,hI⟩
 obtain ⟨rfl,rfl,rfl,rfl,rfl,rfl,rfl,rfl,rfl,rfl,_⟩:=hF_.all
 clear hF_ cJ cH cK cI cN cP cz dC ek fZ
 refine aw (fun hb=>by cases hb) (fun _=>?_)
 refine bn (by omega) ?_
 exact ⟨⟨k+1,hk',rfl,hI⟩,by simp [intOf]; omega⟩
end
end
section
open Go Go.RowKit
def Pe (a b:Int):Int:=if a.tmod b≠0/\(decide (a.tmod b<0) != decide (b<0))=true then a.tmod b+b else a.tmod b
def lL (n:Int):Int × Int:=if n < -999 ∨ 999<n then (0,5) else (n,0)
def opA (s:ByteArray) (a b:Int):Int × Int:=
 if s=⟨#[43]⟩ then lL (a+b)
 else if s=⟨#[45]⟩ then lL (a - b)
 else if s=⟨#[42]⟩ then lL (a * b)
 else if b=0 then (0,4)
 else if s=⟨#[109,111,100]⟩ then (Pe a b,0)
 else (a.tdiv b,0)
def nz (s:ByteArray):List (Int × Int)->Int × Int
 | [a,b]=>if bV s=1 ∨ bV s=2 then (if a.2≠0 then (0,a.2) else if b.2≠0 then (0,b.2) else opA s a.1 b.1) else (0,3)
 | _=>(0,3)
mutual
def dh:T->Int × Int
 | .mk k n s ks=>if k=1 then (0,2) else if k=2 then (n,0) else nz s (fo ks)
def fo:List T->List (Int × Int)
 | []=>[]
 | t::ts=>dh t::fo ts
end
theorem Ba:∀ ts:List T,fo ts=ts.map dh
 | []=>rfl
 | t::ts=>by rw [fo,Ba ts,pj]
mutual
def okN:T->Prop
 | .mk k n _ ks=>(k=2->-999<=n/\n<=999)/\FE ks
def FE:List T->Prop
 | []=>True
 | t::ts=>okN t/\FE ts
end
theorem iM:∀ {ts:List T},FE ts->∀ t∈ts,okN t
 | t::ts,h,x,hx=>by
  rw [FE] at h
  rcases cQ.1 hx with rfl|hx
  ·exact h.1
  ·exact iM h.2 x hx
theorem okN.kids {t:T} (h:okN t):FE t.kids:=by cases t; rw [okN] at h; exact h.2
def Sm (n:Int):Prop:=-999<=n/\n<=999
theorem xk (n:Int):Sm (lL n).1:=by
 unfold lL Sm
 split
 ·simp
 ·simp only []; omega
theorem Mn {a b:Int} (ha:Sm a):Sm (a.tdiv b):=by
 unfold Sm at *
 have h1:(a.tdiv b).natAbs<=a.natAbs:=by
  rw [Int.natAbs_tdiv]
  exact Nat.div_le_self _ _
 omega
theorem Mt {a b:Int} (_:Sm b) (h0:b≠0):(a.tmod b).natAbs<b.natAbs:=by
 rw [Int.natAbs_tmod]
 exact px _ (by omega)
theorem Mb {a b:Int} (hb:Sm b) (h0:b≠0):Sm (Pe a b):=by
 have h:=Mt (a:=a) hb h0
 unfold Pe
 split
 ·rename_i h1
  obtain ⟨h1,h2⟩:=h1
  unfold Sm at *
  by_cases h3:a.tmod b<0
  ·by_cases h4:b<0
   ·simp [h3,h4] at h2
   ·omega
  ·by_cases h4:b<0
   ·omega
   ·simp [h3,h4] at h2
 ·unfold Sm at *; omega
theorem Ru {s:ByteArray} {a b:Int} (ha:Sm a) (hb:Sm b):Sm (opA s a b).1:=by
 unfold opA
 split
 ·exact xk _
 split
 ·exact xk _
 split
 ·exact xk _
 split
 ·simp [Sm]
 split
 ·rename_i h0 _; exact Mb hb h0
 ·exact Mn ha
theorem s9:∀ t:T,okN t->Sm (dh t).1:=by
 refine T.ind fun k n s ks ih h=>?_
 rw [okN] at h
 rw [dh]
 split
 ·simp [Sm]
 split
 ·rename_i hk; exact h.1 hk
 rw [Ba]
 match ks,ih,h.2 with
 | [],_,_=>simp [nz,Sm]
 | [x],_,_=>simp [nz,Sm]
 | [x,y],ih,h2=>
  have hx:=ih x (by simp) (iM h2 x (by simp))
  have hy:=ih y (by simp) (iM h2 y (by simp))
  simp only [pj,List.map_nil,nz]
  split
  ·split
   ·simp [Sm]
   ·split
    ·simp [Sm]
    ·exact Ru hx hy
  ·simp [Sm]
 | _::_::_::_,_,_=>simp [nz,Sm]
theorem Cu {x b:Int} (h:x.natAbs<b.natAbs):x.tmod b=x:=by
 have h1:=Int.tmod_add_mul_tdiv x b
 have h2:(x.tdiv b).natAbs=0:=by rw [Int.natAbs_tdiv]; exact Nat.div_eq_of_lt h
 have h3:x.tdiv b=0:=by omega
 rw [h3] at h1
 simpa using h1
theorem JA {m b:Int} (h0:0<=m) (h:m<b):(m+b).tmod b=m:=by
 rw [Int.tmod_eq_emod_of_nonneg (by omega),Int.add_emod_right,Int.emod_eq_of_lt h0 h]
theorem Nr {m b:Int} (h0:m<=0) (h:b<m):(m+b).tmod b=m:=by
 have h1:=JA (m:=-m) (b:=-b) (by omega) (by omega)
 rw [Int.tmod_neg,show -m+-b=-(m+b) by omega,Int.neg_tmod] at h1
 omega
theorem P1 {a b:Int} (h0:b≠0):(a.tmod b+b).tmod b=Pe a b:=by
 have hlt:(a.tmod b).natAbs<b.natAbs:=by
  rw [Int.natAbs_tmod]
  exact px _ (by omega)
 obtain ⟨m,hm⟩:∃ m,m=a.tmod b:=⟨_,rfl⟩
 unfold Pe
 rw [<- hm] at hlt ⊢
 by_cases h3:m<0
 ·by_cases h4:b<0
  ·rw [af (by simp [h3,h4]),Nr (by omega) (by omega)]
  ·rw [ai (by simp [h3,h4]; omega),Cu (by omega)]
 ·by_cases h4:b<0
  ·by_cases h5:m=0
   ·subst h5; simp
   ·rw [ai (by simp [h3,h4,h5]),Cu (by omega)]
  ·rw [af (by simp [h3,h4]),JA (by omega) (by omega)]
def p6 (s:ByteArray) (a b:Int):Bool:=
 if s=⟨#[60]⟩ then decide (a<b)
 else if s=⟨#[62]⟩ then decide (b<a)
 else if s=⟨#[61,60]⟩ then decide (a<=b)
 else if s=⟨#[62,61]⟩ then decide (b<=a)
 else decide (a=b)
def gK (b:Bool):Int:=if b=true then 0 else 1
def P6 (s:ByteArray):List (Int × Int)->Int
 | [a,b]=>if a.2≠0 then a.2 else if b.2≠0 then b.2 else gK (p6 s a.1 b.1)
 | _=>0
def fQ:List ByteArray:=[⟨#[60]⟩,⟨#[62]⟩,⟨#[61,60]⟩,⟨#[62,61]⟩,⟨#[61,58,61]⟩]
abbrev Uo (p:Int × Int):Value:=.tuple #[.int .i64 p.1,.int .i64 p.2]
theorem Ja (s:ByteArray) (l:List ByteArray):(l.any fun x=>decide (x=s))=cE s l:=by
 rw [cE]
 congr 1
 funext x
 rw [fq]
 exact eq_comm
theorem xw {l:List T} (h:l.length=2):∃ x y,l=[x,y]:=by
 match l,h with
 | [x,y],_=>exact ⟨x,y,rfl⟩
theorem Nz (n:Int):lL n=if (decide (-999<=n) && decide (n<=999))=true then (n,0) else (0,5):=by
 unfold lL
 by_cases h:n < -999 ∨ 999<n
 ·rw [ai h,af (by simp; omega)]
 ·rw [af h,ai (by simp; omega)]
theorem OS {n:Int} (h:Sm n):lL n=(n,0):=by
 unfold lL Sm at *
 rw [af (by omega)]
section
attribute [local irreducible] Run CondV aq aK
theorem R9 {a b:Int} (ha:Sm a) (hb:Sm b):-998001<=a * b/\a * b<=998001:=by
 unfold Sm at *
 have h1:(a * b).natAbs=a.natAbs * b.natAbs:=Int.natAbs_mul a b
 have h2:a.natAbs * b.natAbs<=999 * 999:=Nat.mul_le_mul (by omega) (by omega)
 omega
theorem dk (b:Bool) (S:ad):Pure Tryz.prog n_i_holds [.bool b] S (.int .i64 (gK b)):=by
 intro w hI
 refine sh_i_holds.2 ?_
 dsimp only[sh_i_holds,aG]
 refine aw (fun h=>done hI ?_) (fun h=>done hI ?_) <;> rw [h] <;> rfl
theorem lN:∀ (t:T) (S:ad) (cs:List Value),RdT S cs t->okN t->Pure Tryz.prog ND [.agg cs.toArray] S (Uo (dh t)):=by
 refine T.ind fun k n s ks ih S0 cs h hn=>?_
 intro w hI
 obtain ⟨kv,rfl,_,_,_,hks⟩:=RdT.iff.1 h
 rw [okN] at hn
 simp only [T.name,T.kids,T.kind,T.n] at hks ⊢
 refine Al.2 ?_
 dsimp only[Al,aG]
 refine bp hI fun b1 w' hI=>?_
 refine ae hI 0 rfl aV aI rfl ?_
 refine bl ?_
 refine aH (fun h2=>?_) (fun h2=>?_)
 ·refine ae (u:=.int .i64 n) hI 0 rfl bm aI rfl ?_
  exact done hI (by rw [dh,af (by omega),ai h2])
 refine ae hI 0 rfl aV aI rfl ?_
 refine bl ?_
 refine aH (fun h1=>done hI (by rw [dh,ai h1])) (fun h1=>?_)
 have e0:dh (.mk k n s ks)=nz s (fo ks):=by rw [dh,af h1,af h2]
 rw [e0]
 refine ⟨fun t w'=>t=.bool (!(decide (ks.length=2) && cE s (ug++kP)))/\∃ S,Sle S0 S/\Inv w [] [.blk b1 (.cells #[.int .i64 k,.int .i64 n,.string s,kv] ab)] S w',?_,?_⟩
 ·refine ae hI 0 rfl av ao rfl ?_
  refine aF hks ah ?_
  refine gV ?_
  have el:decide ((ks.length:Int)=2)=decide (ks.length=2):=by rw [fq]; omega
  rw [el]
  cases hl:decide (ks.length=2)
  ·refine rpG ?_
   exact ⟨rfl,S0,Sle.refl _,hI⟩
  refine rpG ?_
  refine eX hI (by kernel_rfl) rfl (by omega) fun v S1 w' hE1 hv hI=>?_
  refine ae hI 0 rfl aW aN rfl ?_
  refine Run.callPure fO fG hI (fm s hv) fun w' hI=>?_
  refine ct ?_
  refine rpG ?_
  refine ⟨?_,S1,hE1.1,hI⟩
  rw [Ja]
  rfl
 intro q _ _ _ _ _ _ _ _ _ _ _ w'
 rintro ⟨rfl,S,hle,hI⟩
 have hks:=hks.monoT hle
 have hlev:cE s (ug++kP)=true↔bV s=1 ∨ bV s=2:=by
  have e1:cE s (ug++kP)=(cE s ug || cE s kP):=by rw [cE,List.any_append]; rfl
  rw [e1]
  unfold bV
  have hex:cE s o6=true->cE s ug=false/\cE s kP=false:=by
   intro hc
   rw [cE,JJ] at hc
   obtain ⟨x,hx,hd⟩:=hc
   have hd:=of_decide_eq_true hd
   subst hd
   simp only [o6,cQ,ji,jg] at hx
   rcases hx with rfl|rfl|rfl|rfl|rfl|rfl|rfl|rfl|rfl <;> exact ⟨by decide +kernel,by decide +kernel⟩
  cases hc:cE s o6
  ·cases hs:cE s ug <;> cases hp:cE s kP <;> simp
  ·simp [hex hc]
 refine aw (fun hc=>kC hI hle ?_) (fun hc=>?_)
 ·match ks,hc with
  | [],_|[_],_|_::_::_::_,_=>rfl
  | [x,y],hc=>
   have hc:cE s (ug++kP)=false:=by simpa using hc
   rw [fo,fo,fo,nz,af (by rw [<- hlev,hc]; decide)]
 simp only [OI,bN,bC] at hc
 obtain ⟨hl,hv⟩:=hc
 rw [hlev] at hv
 obtain ⟨x,y,rfl⟩:=xw hl
 have e1:nz s (fo [x,y])=if (dh x).2≠0 then (0,(dh x).2) else if (dh y).2≠0 then (0,(dh y).2) else opA s (dh x).1 (dh y).1:=by
  rw [fo,fo,fo,nz,ai hv]
 rw [e1]
 have nx:=iM hn.2 x (by simp)
 have ny:=iM hn.2 y (by simp)
 refine ae hI 0 rfl av ao rfl ?_
 refine cj (i:=0) hI hks ah ac (by simp) (fun _ _=>RdT.length) fun cs' hcs'=>?_
 refine Run.callPure jV kB hI (ih x (by simp) S cs' hcs' nx) fun w' hI=>?_
 refine al (v:=.int .i64 _) rfl ?_
 refine al (v:=.int .i64 _) rfl ?_
 refine gV ?_
 refine aw (fun h5=>kC hI hle ?_) (fun h5=>?_)
 ·simp at h5
  rw [ai h5]
 simp at h5
 rw [af (by simp [h5])]
 refine ae hI 0 rfl av ao rfl ?_
 refine cj (i:=1) hI hks ah ac (by simp) (fun _ _=>RdT.length) fun cs' hcs'=>?_
 refine Run.callPure jV kB hI (ih y (by simp) S cs' hcs' ny) fun w' hI=>?_
 refine al (v:=.int .i64 _) rfl ?_
 refine al (v:=.int .i64 _) rfl ?_
 refine gV ?_
 refine aw (fun h6=>kC hI hle ?_) (fun h6=>?_)
 ·simp at h6
  rw [ai h6]
 simp at h6
 rw [af (by simp [h6])]
 have ax:=s9 x nx
 have ay:=s9 y ny
 obtain ⟨a,ha⟩:∃ a,a=(dh x).1:=⟨_,rfl⟩
 obtain ⟨b,hb⟩:∃ b,b=(dh y).1:=⟨_,rfl⟩
 rw [<- ha] at ax ⊢
 rw [<- hb] at ay ⊢
 have hmul:=R9 ax ay
 have ax':=ax
 have ay':=ay
 unfold Sm at ax ay
 refine ⟨fun q w'=>∃ m:Int,q=.int .i64 m/\opA s a b=lL m/\Inv w [] [.blk b1 (.cells #[.int .i64 k,.int .i64 n,.string s,kv] ab)] S w',?_,?_⟩
 ·refine ae hI 0 rfl aW aN rfl ?_
  refine bt ?_
  refine aH (fun h=>?_) (fun h1=>?_)
  ·exact bn (by omega) ⟨_,rfl,by rw [opA,ai h],hI⟩
  refine bt ?_
  refine aH (fun h=>?_) (fun h2=>?_)
  ·exact kY (by omega) ⟨_,rfl,by rw [opA,af h1,ai h],hI⟩
  refine bt ?_
  refine aH (fun h=>?_) (fun h3=>?_)
  ·exact AV (by omega) ⟨_,rfl,by rw [opA,af h1,af h2,ai h],hI⟩
  refine bl ?_
  refine aH (fun h=>?_) (fun h4=>?_)
  ·exact kC hI hle (by rw [opA,af h1,af h2,af h3,ai h])
  have hd:=Mn (b:=b) ax'
  have hd':=hd
  unfold Sm at hd
  refine Sk h4 (by omega) ?_
  refine ae hI 0 rfl aW aN rfl ?_
  refine bt ?_
  refine aH (fun h=>?_) (fun h5=>?_)
  ·have hm:=Mt (a:=a) ay' h4
   refine Q0 h4 ?_
   refine bn (by omega) ?_
   refine Q0 h4 ?_
   refine ⟨_,rfl,?_,hI⟩
   rw [opA,af h1,af h2,af h3,af h4,ai h,P1 h4,OS (Mb ay' h4)]
  ·refine ⟨_,rfl,?_,hI⟩
   rw [opA,af h1,af h2,af h3,af h4,af h5,OS hd']
 intro _ _ _ _ _ _ _ _ _ _ _ _ _ _ _ _ _ _ _ _ _ _ _ _ _ _ _ q _ _ _ _ _ _ _ w'
 rintro ⟨m,rfl,hop,hI⟩
 refine Run.callPure fE fL hI (fa _ _ _ S) fun w' hI=>?_
 refine ct ?_
 rw [hop,Nz]
 refine aw (fun hc=>kC hI hle ?_) (fun hc=>kC hI hle ?_)
 ·rw [oN] at hc
  rw [hc]; rfl
 ·rw [OI] at hc
  rw [hc]; rfl
def P8 (t:T):Bool:=decide (t.kind=3) && (decide (t.kids.length=2) && cE t.name fQ)
theorem wx {t:T} {S0:ad} {cs:List Value} (h:RdT S0 cs t):Pure Tryz.prog Fy [.agg cs.toArray] S0 (.bool (P8 t)):=by
 intro w hI
 obtain ⟨kv,rfl,_,_,_,hks⟩:=RdT.iff.1 h
 refine rK.2 ?_
 dsimp only[rK,aG]
 unfold P8
 refine bp hI fun b1 w' hI=>?_
 refine ae hI 0 rfl aV aI rfl ?_
 refine bl ?_
 have el:decide ((t.kids.length:Int)=2)=decide (t.kids.length=2):=by rw [fq]; omega
 cases hk:decide (t.kind=3)
 ·refine rpG ?_
  exact done hI rfl
 refine rpG ?_
 refine ae hI 0 rfl av ao rfl ?_
 refine aF hks ah ?_
 refine bl ?_
 rw [el]
 refine rpG ?_
 cases hl:decide (t.kids.length=2)
 ·refine rpG ?_
  exact done hI rfl
 refine rpG ?_
 refine eX hI (by kernel_rfl) rfl (by omega) fun v S1 w' hE1 hv hI=>?_
 refine ae hI 0 rfl aW aN rfl ?_
 refine Run.callPure fO fG hI (fm t.name hv) fun w' hI=>?_
 refine rpG ?_
 refine kC hI hE1.1 ?_
 rw [Ja]
 rfl
theorem wN {s:ByteArray} {k n:Int} {ks:List T} {S:ad} {cs:List Value} (h:RdT S cs (.mk k n s ks)) (hl:ks.length=2) (hn:FE ks):Pure Tryz.prog EY [.agg cs.toArray] S (.int .i64 (P6 s (fo ks))):=by
 intro w hI
 obtain ⟨kv,rfl,_,_,_,hks⟩:=RdT.iff.1 h
 simp only [T.name,T.kids,T.kind,T.n] at hks ⊢
 obtain ⟨x,y,rfl⟩:=xw hl
 have nx:=iM hn x (by simp)
 have ny:=iM hn y (by simp)
 rw [fo,fo,fo,P6]
 refine sm.2 ?_
 dsimp only[sm,aG]
 refine bp hI fun b1 w' hI=>?_
 refine ae hI 0 rfl av ao rfl ?_
 refine cj (i:=0) hI hks ah ac (by simp) (fun _ _=>RdT.length) fun cs' hcs'=>?_
 refine Run.callPure jV kB hI (lN x S cs' hcs' nx) fun w' hI=>?_
 refine al (v:=.int .i64 _) rfl ?_
 refine al (v:=.int .i64 _) rfl ?_
 refine gV ?_
 refine aw (fun h5=>done hI ?_) (fun h5=>?_)
 ·simp at h5
  rw [ai h5]
 simp at h5
 rw [af (by simp [h5])]
 refine ae hI 0 rfl av ao rfl ?_
 refine cj (i:=1) hI hks ah ac (by simp) (fun _ _=>RdT.length) fun cs' hcs'=>?_
 refine Run.callPure jV kB hI (lN y S cs' hcs' ny) fun w' hI=>?_
 refine al (v:=.int .i64 _) rfl ?_
 refine al (v:=.int .i64 _) rfl ?_
 refine gV ?_
 refine aw (fun h6=>done hI ?_) (fun h6=>?_)
 ·simp at h6
  rw [ai h6]
 simp at h6
 rw [af (by simp [h6])]
 refine ae hI 0 rfl aW aN rfl ?_
 have hcode:∀ (b:Bool) {w':World} {L:List Item},Inv w [] L S w'->p6 s (dh x).1 (dh y).1=b->Run Tryz.prog (er (.func (.func n_i_holds) #[] #[]) [.bool b]) w' fun v w''=>Ending.returned v=.returned (.int .i64 (gK (p6 s (dh x).1 (dh y).1)))/\Inv w [] [] S w'':=fun b w' L hI e=>
  Run.callPure fn_i_holds nm_i_holds hI (dk b S) fun w' hI=>done hI (by rw [e])
 refine bt ?_
 refine aH (fun h=>bL (hcode _ hI (by rw [p6,ai h]))) (fun h1=>?_)
 refine bt ?_
 refine aH (fun h=>eU (hcode _ hI (by rw [p6,af h1,ai h]))) (fun h2=>?_)
 refine bt ?_
 refine aH (fun h=>eL (hcode _ hI (by rw [p6,af h1,af h2,ai h]))) (fun h3=>?_)
 refine bt ?_
 refine aH (fun h=>kX (hcode _ hI (by rw [p6,af h1,af h2,af h3,ai h]))) (fun h4=>?_)
 exact bl (hcode _ hI (by rw [p6,af h1,af h2,af h3,af h4]))
end
end
section
open Go Go.RowKit
def zT:T:=.mk 0 0 ⟨#[]⟩ []
def kd (g:T) (i:Nat):T:=g.kids.getD i zT
inductive BJ where
 | done (c:Int)
 | uni (a b:T)
 | not (a b:T)
def GR (n t u:T):BJ:=if n.kind=1 ∨ t.kind=1 then .done 2 else if n.kind≠2 ∨ t.kind≠3 ∨ t.kids.length=0 then .done 3
 else if n.n<1 ∨ (t.kids.length:Int)<n.n then .done 1 else .uni u (kd t (n.n.toNat - 1))
def tA (s:ByteArray) (t:T):Bool:=if s=⟨#[118,97,114]⟩ then decide (t.kind=1) else if s=⟨#[110,111,110,118,97,114]⟩ then !decide (t.kind=1)
 else if s=⟨#[105,110,116]⟩ then decide (t.kind=2) else decide (t.kind=3) && decide (t.kids.length=0)
abbrev lm:ByteArray:=⟨#[116,114,117,101]⟩
abbrev mg:ByteArray:=⟨#[102,97,105,108]⟩
abbrev nEq:ByteArray:=⟨#[61]⟩
abbrev nNe:ByteArray:=⟨#[92,61]⟩
abbrev sq:ByteArray:=⟨#[61,61]⟩
abbrev nIs:ByteArray:=⟨#[105,115]⟩
abbrev DC:ByteArray:=⟨#[97,114,103]⟩
def HT (n:Int):T:=.mk 2 n emptyB []
def g7 (g:T):BJ:=
 if g.name=lm then .done 0
 else if g.name=mg then .done 1
 else if g.name=nEq then .uni (kd g 0) (kd g 1)
 else if g.name=nNe then .not (kd g 0) (kd g 1)
 else if g.name=sq then .done (gK (eqT (kd g 0) (kd g 1)))
 else if g.name=nIs then (if (dh (kd g 1)).2≠0 then .done (dh (kd g 1)).2 else .uni (kd g 0) (HT (dh (kd g 1)).1))
 else if g.name=DC then GR (kd g 0) (kd g 1) (kd g 2)
 else if cE g.name fQ=true then .done (P6 g.name (fo g.kids))
 else .done (gK (tA g.name (kd g 0)))
def BltJ (st:aj) (j:BJ) (code:Int) (st':aj):Prop:=match j with
 | .done c=>code=c/\st'=st
 | .uni a b=>∃ r,Uni st (.one a b) r st'/\code=gK r
 | .not a b=>st'=st/\∃ r st1,Uni st (.one a b) r st1/\code=gK (!r)
def Blt (st:aj) (g:T) (code:Int) (st':aj):Prop:=BltJ st (g7 g) code st'
theorem kO {s:ByteArray} {n:Int} (hs:cE s o6=true) (h:eh s n=true):n=2:=by
 rw [eh,ai hs] at h
 exact of_decide_eq_true h
theorem QK {n:Int} (h:eh DC n=true):n=3:=by
 rw [eh,af (by decide +kernel),af (by decide +kernel),af (by decide +kernel),ai rfl] at h
 exact of_decide_eq_true h
theorem BQ {s:ByteArray} {l:List ByteArray}:cE s l=false↔∀ x∈l,s≠x:=by
 rw [cE,List.any_eq_false]
 simp
theorem QE {s:ByteArray} (h:cE s fQ=true):cE s o6=true:=by
 rw [cE,JJ] at h ⊢
 obtain ⟨x,hx,hd⟩:=h
 refine ⟨x,?_,hd⟩
 simp only [fQ,cQ,ji,jg] at hx
 rcases hx with rfl|rfl|rfl|rfl|rfl <;> simp [o6]
theorem qr {s:ByteArray} {n:Int} (h:eh s n=true) (h1:s≠lm) (h2:s≠mg) (h3:s≠nEq) (h4:s≠nNe) (h5:s≠sq) (h6:s≠nIs) (hc:cE s fQ=false) :
  (cE s rO=true/\n=1) ∨ (s=DC/\n=3):=by
 have hk:cE s o6=false:=by
  rw [BQ] at hc ⊢
  intro x hx
  simp only [o6,cQ,ji,jg] at hx
  rcases hx with rfl|rfl|rfl|rfl|rfl|rfl|rfl|rfl|rfl <;> first|assumption|exact hc _ (by simp [fQ])
 have hk2:cE s nw=false:=by
  rw [BQ]
  intro x hx
  simp only [nw,cQ,ji,jg] at hx
  rcases hx with rfl|rfl <;> assumption
 rw [eh,hk,hk2,af (by decide),af (by decide)] at h
 cases ht:cE s rO
 ·rw [ht,af (by decide)] at h
  split at h
  ·rename_i e; exact .inr ⟨e,of_decide_eq_true h⟩
  ·cases h
 ·rw [ht,ai rfl] at h
  exact .inl ⟨rfl,of_decide_eq_true h⟩
theorem FV {l:List T} (h:l.length=1):∃ x,l=[x]:=by
 match l,h with
 | [x],_=>exact ⟨x,rfl⟩
theorem Pf {l:List T} (h:l.length=3):∃ x y z,l=[x,y,z]:=by
 match l,h with
 | [x,y,z],_=>exact ⟨x,y,z,rfl⟩
def Ua (N:Nat):BJ->Prop
 | .done _=>True
 | .uni a b=>okJ N (.one a b)
 | .not a b=>okJ N (.one a b)
theorem BltJ.ex {N:Nat} {st:aj} {j:BJ} (hg:Good N st) (hj:Ua N j):∃ c st',BltJ st j c st':=by
 match j,hj with
 | .done c,_=>exact ⟨c,st,rfl,rfl⟩
 | .uni a b,hj=>
  have hj:okJ N (.one a b):=hj
  obtain ⟨r,st',hu⟩:=Cl (unb st) st hg (aM _) _ hj
  exact ⟨_,st',r,hu,rfl⟩
 | .not a b,hj=>
  have hj:okJ N (.one a b):=hj
  obtain ⟨r,st',hu⟩:=Cl (unb st) st hg (aM _) _ hj
  exact ⟨_,st,rfl,r,st',hu,rfl⟩
theorem QI (N:Nat) (n:Int):okU N (HT n):=by
 rw [HT,okU,cS]
 exact ⟨by decide,(fun h=>by cases h),trivial,by decide +kernel⟩
theorem RJ {g:T} {i:Nat} (h:i<g.kids.length):kd g i∈g.kids:=by
 rw [kd,MP,iR h]
 exact bQ h
theorem yU {N:Nat} {g:T} {i:Nat} (ho:okU N g/\wT g<=1048576) (h:i<g.kids.length):okU N (kd g i)/\wT (kd g i)<=1048576:=lB ho _ (RJ h)
theorem GX {N:Nat} {g:T} (hb:cr g=true) (ho:okU N g/\wT g<=1048576):Ua N (g7 g):=by
 rw [cr,bN] at hb
 have hb:=hb.2
 have hlen:∀ m:Nat,((g.kids.length:Nat):Int)=m->g.kids.length=m:=fun m h=>by omega
 unfold g7
 split
 ·trivial
 split
 ·trivial
 split
 ·rename_i h; rw [h] at hb
  have:=kO (by decide +kernel) hb
  exact ⟨yU ho (by omega),yU ho (by omega)⟩
 split
 ·rename_i h; rw [h] at hb
  have:=kO (by decide +kernel) hb
  exact ⟨yU ho (by omega),yU ho (by omega)⟩
 split
 ·trivial
 split
 ·rename_i h; rw [h] at hb
  have:=kO (by decide +kernel) hb
  split
  ·trivial
  ·exact ⟨yU ho (by omega),QI N _,by have e:emptyB.size=0:=rfl; simp only [HT,wT,wL,bG]; omega⟩
 split
 ·rename_i h; rw [h] at hb
  have:=QK hb
  unfold GR
  split
  ·trivial
  split
  ·trivial
  split
  ·trivial
  ·rename_i h1 h2 h3
   have k1:=yU (i:=1) ho (by omega)
   exact ⟨yU ho (by omega),yU k1 (by omega)⟩
 split
 ·trivial
 ·trivial
theorem Blt.ex {N:Nat} {st:aj} {g:T} (hg:Good N st) (hb:cr g=true) (ho:okU N g/\wT g<=1048576):∃ c st',Blt st g c st':=BltJ.ex hg (GX hb ho)
theorem Blt.good {N:Nat} {st st':aj} {g:T} {c:Int} (hg:Good N st) (hb:cr g=true) (ho:okU N g/\wT g<=1048576) (h:Blt st g c st'):Good N st':=by
 have hj:=GX hb ho
 unfold Blt at h
 match hb:g7 g,h,hj with
 | .done c,h,_=>exact h.2 ▸ hg
 | .uni a b,⟨r,hu,_⟩,hj=>exact (hu.good hg hj).1
 | .not a b,h,_=>exact h.1 ▸ hg
theorem RdSl.ptr {α:Type} {S:ad} {k:Nat} {R:List Value->α->Prop} {v:Value} {xs:List α} (h:RdSl S k R v xs) (hi:0<xs.length) :
  ∃ b o cap c E fz,v=.slice (some ⟨b,o,none⟩) xs.length cap/\S b=some (.cells c E fz)/\∀ i (h:i<xs.length),R (ba c (o+i * k) k) xs[i]:=by
 obtain ⟨a,cap,rfl,hl,hc,h⟩:=h
 rcases h with h|⟨b,o,c,E,fz,rfl,hS,h⟩
 ·subst h; simp at hi
 ·exact ⟨b,o,cap,c,E,fz,rfl,hS,h⟩
section
attribute [local irreducible] Run CondV aq aK
end
end
section
open Go Go.RowKit
section
attribute [local irreducible] Run CondV aq aK
def neSt (w0:World) (X:List Nat) (A:List Item) (S:ad) (N:Nat) (st:aj) (r:Bool) (JO KL Hm:Value) (w':World):Nat->Prop
 | 0=>Inv w0 X A S w'
 | 1=>Inv w0 X (A++[.row JO ab 4 0 []]) S w'
 | 2=>∃ g cap cur,KL=kvU g N cap/\KnU S cur st/\Inv w0 X (A++[.blk g (.cells cur ab)]) S w'
 | _=>Hm=.bool r/\∃ R,Inv w0 X (A++R) S w'
theorem neSt.inv {w0 w':World} {X:List Nat} {A:List Item} {S:ad} {N:Nat} {st:aj} {r:Bool} {JO KL Hm:Value}:∀ {n:Nat},neSt w0 X A S N st r JO KL Hm w' n->∃ R,Inv w0 X (A++R) S w'
 | 0,h=>⟨[],by rw [cX]; exact h⟩
 | 1,h=>⟨_,h⟩
 | 2,⟨_,_,_,_,_,h⟩=>⟨_,h⟩
 | _+3,h=>h.2
end
end
end Go.Proofs.YtcpgagfdeflbkaaGreatDoor
