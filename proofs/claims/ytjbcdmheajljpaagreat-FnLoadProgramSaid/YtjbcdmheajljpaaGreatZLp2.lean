/- Whether terms are the same: the program's side. -/
import Derived.Test.YtjbcdmheajljpaaGreatZLp1
namespace Go.Proofs.YtjbcdmheajljpaaGreat
section
open Go Go.RowKit
attribute [local irreducible] Run CondV aC aU

theorem tG {xs:List T} (N:∀ t∈xs,∀ (u:T) (S:ag) (cs ds:List Value),RdT S cs t->RdT S ds u->Pure Tryz.prog nM [.agg cs.toArray,.agg ds.toArray] S (.bool (eqT t u)))
  {ys:List T} {S:ag} {v u:Value} (h:RdSl S 4 (RdT S) v xs) (J:RdSl S 4 (RdT S) u ys):Pure Tryz.prog sC [v,u,.func (.func nM) #[] #[]] S (.bool (eqL xs ys)):=by
 intro w a;have M:(xs.length:Int)<=9223372036854775807:=by have:=h.le; simp only [maxLen] at this; omega
 refine jW.2 ?_;dsimp only[jW,fB];refine aG h ao ?_;refine aG J ao ?_;refine pu ?_;refine aI (fun l=>?_) (fun D=>?_)
 ·exact done a (by rw [P2 (by simp at l; omega)])
 have D:xs.length=ys.length:=by simp at D; omega
 refine aG h ao ?_;refine ⟨fun i w'=>∃ (k:Nat),k<=xs.length/\i=.int .i64 k/\eqL (xs.drop k) (ys.drop k)=eqL xs ys/\Inv w [] [] S w',fun i _=>xs.length - (intOf i).toNat,⟨0,aK _,rfl,rfl,a⟩,?_⟩;intro O _ _ _ _ _ _ _ _ _ _ _ _ _ _ _ _ _ _ w';rintro ⟨k,hk,rfl,g,a⟩;refine cu ?_;refine aS (fun G=>?_) (fun G=>?_)
 ·have m:k<xs.length:=by omega
  have r:k<ys.length:=by omega
  have j:eqL (xs.drop k) (ys.drop k)=(eqT xs[k] ys[k] && eqL (xs.drop (k+1)) (ys.drop (k+1))):=by
   rw [dR m,dR r,eqL]
  refine dy a h ao ad m (fun _ _=>RdT.length) fun cs o=>?_;have B:=o.length;refine aH a aM fun U w' a=>?_;refine al a 0 rfl ad (by simpa using B) rfl (by simpa using o.one) fun w' a=>?_;refine dy a J ao ad r (fun _ _=>RdT.length) fun ds p=>?_;have C:=p.length;refine aH a aM fun V w' a=>?_;refine al a 1 rfl ad (by simpa using C) rfl (by simpa using p.one) fun w' a=>?_;refine aq a 0 ad rfl (by simpa using B) ?_;refine aq a 1 ad rfl (by simpa using C) ?_;refine Run.callPure rS rz a (N _ (cH m) _ S _ _ o p) fun w' a=>?_;refine cU ?_;refine aI (fun l=>?_) (fun q=>?_)
  ·exact done a (by rw [<- g,j]; simp at l; rw [l]; rfl)
  ·refine bF (by omega) ?_;refine ⟨⟨k+1,m,rfl,?_,a.nil⟩,by simp [intOf]; omega⟩;rw [<- g,j];simp at q;rw [q,eL]
 ·have:k=xs.length:=by omega
  subst this;refine done a ?_;rw [<- g,ew,D,ew];rfl
theorem nn:∀ (t u:T) (S:ag) (cs ds:List Value),RdT S cs t->RdT S ds u->Pure Tryz.prog nM [.agg cs.toArray,.agg ds.toArray] S (.bool (eqT t u)):=by
 refine T.ind fun k n s ks o u S cs ds h p=>?_;intro w a;obtain ⟨kv,rfl,_,_,_,j⟩:=RdT.iff.1 h;obtain ⟨q,rfl,_,_,_,g⟩:=RdT.iff.1 p;obtain ⟨r,B,C,D⟩:=u;simp only [T.name,T.kids,T.kind,T.n] at j g ⊢;refine r2.2 ?_;dsimp only[r2,bm];refine bH a fun G w' a=>?_;refine bH a fun J w' a=>?_;refine ah a 0 rfl bb aw rfl ?_;refine ah a 1 rfl bb aw rfl ?_;refine bn ?_;by_cases i:k=r
 ·rw [aP i];refine rpG ?_;refine ah a 0 rfl aV aw rfl ?_;refine ah a 1 rfl aV aw rfl ?_;refine bn ?_;by_cases l:n=B
  ·rw [aP l];refine rpG ?_;refine ah a 0 rfl bk aZ rfl ?_;refine ah a 1 rfl bk aZ rfl ?_;refine cM ?_;by_cases m:s=C
   ·rw [aP m];refine rpG ?_;refine ah a 0 rfl ay ax rfl ?_;refine ah a 1 rfl ay ax rfl ?_;refine Run.callPure jS jY a (tG o j g) fun w' a=>?_;refine rpG ?_;exact done a (by rw [eqT,aP i,aP l,aP m]; rfl)
   ·rw [bf m];refine rpG ?_;exact done a (by rw [eqT,aP i,aP l,bf m]; rfl)
  ·rw [bf l];refine rpG ?_;exact done a (by rw [eqT,aP i,bf l]; rfl)
 ·rw [bf i];refine rpG ?_;exact done a (by rw [eqT,bf i]; rfl)
end
section
open Go Go.RowKit

theorem lM {n:Int}:∀ (l:List MapEntry) (i:Nat),(∀ e∈l,∃ m,e.key=.int .i64 m)->
  (∃ j,∃ e∈l,e.key=.int .i64 n/\Instr.findNow (.int .i64) (.int .i64 n) l i=some (some (j,e.val))) ∨ ((∀ e∈l,e.key≠.int .i64 n)/\Instr.findNow (.int .i64) (.int .i64 n) l i=some none)
 | [],i,_=>.inr ⟨by simp,rfl⟩
 | e::l,i,h=>by
  obtain ⟨m,p⟩:=h e (bL ..);have q:Instr.sameNow (.int .i64) (.int .i64 n) e.key=some (n == m):=by rw [p]; rfl
  by_cases a:n=m
  ·refine .inl ⟨i,e,bL ..,by rw [p,a],?_⟩;have:(n == m)=true:=by simpa using a
   rw [Instr.findNow,q,this]
  ·have t:(n == m)=false:=by simpa using a
   rcases lM l (i+1) (fun e u=>h e (bV _ u)) with ⟨j,g,r,hk,hf⟩|⟨hk,hf⟩
   ·exact .inl ⟨j,g,bV _ r,hk,by rw [Instr.findNow,q,t]; exact hf⟩
   ·refine .inr ⟨fun x o=>?_,by rw [Instr.findNow,q,t]; exact hf⟩;rcases ek.1 o with rfl|o
    ·rw [p];intro g;simp only [Value.int.injEq,sa] at g;exact a g.symm
    ·exact hk x o
section
variable {P:Program} {w w0:World} {X:List Nat} {L:List Item} {S:ag} {K:Value->World->Prop}
attribute [local irreducible] Run CondV aC aU
theorem gC {g:TypeId} {d:TypeDesc} {k:Value} {l:List MapEntry} {a:Option (Nat × Value)} (i:P.underlying g=some d) (h:Instr.findNow d k l 0=some a):(Instr.findKey g k l).run P w=.ok a w:=by
 simp [Instr.findKey,run_underlying i,Result.andThen,h]
theorem mu (h:Inv w0 X L S w) {T ty:TypeId} (hk:∀ b w',Inv w0 X (L++[.blk b (.map #[] 0)]) S w'->K (.map (some b)) w'):Run P (sOp (.makeMap T none) ty) w K:=by
 refine Run.of (v:=.map (some w.heap.size)) (w':={ w with heap:=w.heap.push (.map #[] 0) }) ?_ (hk _ _ (h.alloc _));simp [sOp,execOp,Instr.makeMap,newObj,Sem.run]
theorem Co (h:Inv w0 X L S w) {T u p ty:TypeId} {b a:Nat} {q:Array MapEntry} {n:Int} {z v:Value} {ok:Bool} (i:Nat) (G:P.underlying T=some (.map u p)) (m:P.underlying u=some (.int .i64))
  (r:fW P p=some z) (M:L[i]?=some (.blk b (.map q a)))
  (hf:(∃ j,Instr.findNow (.int .i64) (.int .i64 n) q.toList 0=some (some (j,v))/\ok=true) ∨ (Instr.findNow (.int .i64) (.int .i64 n) q.toList 0=some none/\v=z/\ok=false))
  (hk:K (.tuple #[v,.bool ok]) w):Run P (sOp (.lookup T (.const (.map (some b))) (.const (.int .i64 n)) true) ty) w K:=by
 have N:w.heap[b]?=some (.map q a):=h.its _ (fj M);have t:∀ e,(Instr.checkKey e 10000 u (.int .i64 n)).run P w=.ok () w:=fun e=>by
  rw [show (10000:Nat)=9999+1 from rfl,Instr.checkKey];simp [run_underlying m]
 obtain ⟨g,B,C⟩:∃ g,P.info? p=some g/\g.zero=some z:=by
  unfold fW at r;cases l:P.info? p with
  | none=>rw [l] at r; simp at r
  | some g=>rw [l] at r; exact ⟨g,rfl,by simpa using r⟩
 have D:(zeroValue p).run P w=.ok z w:=by simp [zeroValue,typeInfo,B,C]
 refine Run.of ?_ hk;have J:(getObj b).run P w=.ok (.map q a) w:=by simp [getObj,Sem.run,N]
 rcases hf with ⟨j,hf,rfl⟩|⟨hf,rfl,rfl⟩
 ·have o:=gC (P:=P) (w:=w) m hf;simp [sOp,execOp,ev0,evE,Instr.lookup,run_underlying G,J,t,o]
 ·have o:=gC (P:=P) (w:=w) m hf;simp [sOp,execOp,ev0,evE,Instr.lookup,run_underlying G,J,t,o,D]
theorem nb (h:Inv w0 X L S w) {T l t ty:TypeId} {b a:Nat} {g:Array MapEntry} {n:Int} {v:Value} (i:Nat) (u:P.underlying T=some (.map l t)) (j:P.underlying l=some (.int .i64))
  (q:L[i]?=some (.blk b (.map g a))) (hf:Instr.findNow (.int .i64) (.int .i64 n) g.toList 0=some none)
  (hk:∀ w',Inv w0 X (L.set i (.blk b (.map (g.push { key:=.int .i64 n,val:=v,born:=a }) (a+1)))) S w'->K undef w') :
  Run P (sOp (.mapUpdate T (.const (.map (some b))) (.const (.int .i64 n)) (.const v)) ty) w K:=by
 have r:w.heap[b]?=some (.map g a):=h.its _ (fj q);have m:∀ e,(Instr.checkKey e 10000 l (.int .i64 n)).run P w=.ok () w:=fun e=>by
  rw [show (10000:Nat)=9999+1 from rfl,Instr.checkKey];simp [run_underlying j]
 have B:(getObj b).run P w=.ok (.map g a) w:=by simp [getObj,Sem.run,r]
 have o:=gC (P:=P) (w:=w) j hf;refine Run.ofSkip (w':={ w with heap:=w.heap.setIfInBounds b (.map (g.push { key:=.int .i64 n,val:=v,born:=a }) (a+1)) }) ?_ (hk _ (h.setBlk q _ rfl));have p:(setObj b (.map (g.push { key:=.int .i64 n,val:=v,born:=a }) (a+1))).run P w=.ok () { w with heap:=w.heap.setIfInBounds b (.map (g.push { key:=.int .i64 n,val:=v,born:=a }) (a+1)) }:=by simp [setObj,Sem.run,r]
 simp [sOp,execOp,ev0,evE,Instr.mapUpdate,run_underlying u,B,m,o,p]
end
end
section
open Go Go.RowKit

abbrev aX:=List (Option T)
mutual
def okV:T->Prop
 | .mk k n _ ks=>(k=1->0<=n/\n<=25)/\zu ks
def zu:List T->Prop
 | []=>True
 | t::ts=>okV t/\zu ts
end
mutual
def okK:T->Prop
 | .mk k _ _ ks=>k≠0/\ER ks
def ER:List T->Prop
 | []=>True
 | t::ts=>okK t/\ER ts
end
theorem OG {t:T} (h:eV t=true):(t.kind=1->0<=t.n/\t.n<=25)/\t.kind≠0:=by
 unfold eV at h;refine ⟨fun hk=>?_,fun hk=>?_⟩
 ·rw [af hk] at h;simp only [bJ,bE] at h;exact ⟨h.1,h.2.1⟩
 ·rw [ae (by omega),ae (by omega),ae (by omega)] at h;cases h
mutual
theorem G9:∀ (t:T) (d:Int),dx t d=true->okV t/\okK t
 | .mk k n s ks,d,h=>by
  rw [dx] at h;split at h
  ·cases h
  ·simp only [bJ] at h;obtain ⟨a,g⟩:=h;obtain ⟨i,j⟩:=EB ks (d - 1) g;rw [okV,okK];obtain ⟨l,m⟩:=OG a;exact ⟨⟨l,i⟩,⟨m,j⟩⟩
theorem EB:∀ (ts:List T) (d:Int),dj ts d=true->zu ts/\ER ts
 | [],d,h=>by simp [zu,ER]
 | t::ts,d,h=>by
  rw [dj,bJ] at h;obtain ⟨a,g⟩:=G9 t d h.1;obtain ⟨i,j⟩:=EB ts d h.2;rw [zu,ER];exact ⟨⟨a,i⟩,⟨g,j⟩⟩
end
theorem Hp {t:T} (h:cA t=true):okV t/\okK t:=by
 rw [cA,bJ] at h;exact G9 t 30 h.1
def Lp:List Value:=[.int .i64 0,.int .i64 0,.string ⟨#[]⟩,.slice none 0 0]
def KnownC (S:ag) (c:Array Value) (st:aX):Prop:=104<=c.size/\∀ i (h:i<st.length),(st[i]=none->bB c (i * 4) 4=Lp)/\(∀ t,st[i]=some t->RdT S (bB c (i * 4) 4) t)
theorem KnownC.set {S:ag} {c:Array Value} {st:aX} (h:KnownC S c st) {n:Nat} (hn:n<26) {cs:List Value} {u:T} (g:RdT S cs u):KnownC S (bY c (n * 4) cs) (st.set n (some u)):=by
 have a:=g.length;have m:=h.1;have p:104<=(bY c (n * 4) cs).size:=by rw [gW _ _ _ (by omega)]; exact m
 refine ⟨p,fun i j=>?_⟩;rw [jR] at j;by_cases e:n=i
 ·subst e;rw [Hi];refine ⟨fun h=>(by cases h),fun t l=>?_⟩;simp only [bh] at l;subst l;have:=ft (c:=c) (o:=n * 4) (vs:=cs) (by omega);rw [a] at this;rw [this];exact g
 ·rw [LP e,gj (by omega) (by omega)];exact h.2 i j
section
attribute [local irreducible] Run CondV aC aU
abbrev kvn (kb kp:Nat):Value:=.slice (some ⟨kb,0,none⟩) 26 kp
abbrev kv0 (kb:Nat):Value:=kvn kb 26
end
end
section
open Go Go.RowKit

def tp:List Int->Int->Int->Nat->Int
 | [],_,cur,_=>cur
 | x::xs,n,cur,k=>tp xs n (if x=n then (k:Int) else cur) (k+1)
def mw (vs:List Int) (n:Int):Int:=(cw (σ:=Unit) (fun _ x=>(decide (n=x),())) () vs 0).1
mutual
def el (vs:List Int):T->T
 | .mk k n s ks=>.mk k (if k=1 then tp vs n n 0 else n) s (gp vs ks)
def gp (vs:List Int):List T->List T
 | []=>[]
 | t::ts=>el vs t::gp vs ts
end
mutual
def lS (vs:List Int):T->T
 | .mk k n s ks=>if k=1 then .mk 1 (mw vs n) ⟨#[]⟩ [] else .mk k n s (gV vs ks)
def gV (vs:List Int):List T->List T
 | []=>[]
 | t::ts=>lS vs t::gV vs ts
end
theorem DE:∀ (xs:List Int) (n a:Int) (k:Nat),n ∉ xs->tp xs n a k=a
 | [],n,a,k,_=>rfl
 | x::xs,n,a,k,h=>by
  rw [tp,ae (fun e=>h (by rw [e]; exact bL ..)),DE xs n a (k+1) fun e=>h (bV _ e)]
theorem wN:∀ (xs:List Int) (n a:Int) (k:Nat),n∈xs->xs.Nodup->tp xs n a k=(cw (σ:=Unit) (fun _ x=>(decide (n=x),())) () xs k).1
 | x::xs,n,a,k,h,hd=>by
  rw [List.nodup_cons] at hd;rw [tp,cw];by_cases e:x=n
  ·subst e;rw [af rfl,DE _ _ _ _ hd.1];simp
  ·rw [ae e];have g:n∈xs:=by
    rcases ek.1 h with h|h
    ·exact absurd h.symm e
    ·exact h
   have:decide (n=x)=false:=bf fun q=>e q.symm;simp only [this,pQ,if_false];exact wN xs n a (k+1) g hd.2
theorem OZ (vs:List Int) (n:Int):-1<=mw vs n/\mw vs n<vs.length+1:=by
 have:∀ (xs:List Int) (k:Nat),-1<=(cw (σ:=Unit) (fun _ x=>(decide (n=x),())) () xs k).1/\(cw (σ:=Unit) (fun _ x=>(decide (n=x),())) () xs k).1<k+xs.length+1:=by
  intro xs;induction xs with
  | nil=>intro k; simp [cw]; omega
  | cons x xs a=>
   intro k;rw [cw];have:=a (k+1);split
   ·simp; omega
   ·simp only [aO]; omega
 have h:=this vs 0;rw [mw];omega
mutual
def inT (vs:List Int):T->Prop
 | .mk k n _ ks=>(k=1->n∈vs)/\inL vs ks
def inL (vs:List Int):List T->Prop
 | []=>True
 | t::ts=>inT vs t/\inL vs ts
end
theorem oY (l:List Int) (n:Int):KY l n=true↔n∈l:=by
 simp [KY]
theorem Hh (l:List Int) (n:Int):n∈j4 l n/\∀ m∈l,m∈j4 l n:=by
 unfold j4;split
 ·rename_i h; exact ⟨(oY l n).1 h,fun m h=>h⟩
 ·exact ⟨by simp,fun m h=>by simp [h]⟩
theorem Ju {l:List Int} (n:Int) (h:l.Nodup):(j4 l n).Nodup:=by
 unfold j4;split
 ·exact h
 ·rename_i hn
  rw [A8];refine ⟨h,by simp,fun a i b g e=>hn ((oY l n).2 ?_)⟩;simp at g;rw [<- g,<- e];exact i
mutual
theorem NC:∀ (t:T) (l:List Int),∀ m∈l,m∈fV t l
 | .mk k n s ks,l,m,h=>by
  rw [fV];refine qx ks _ m ?_;split
  ·exact (Hh l n).2 m h
  ·exact h
theorem qx:∀ (ts:List T) (l:List Int),∀ m∈l,m∈dk ts l
 | [],l,m,h=>h
 | t::ts,l,m,h=>by
  rw [dk];exact qx ts _ m (NC t l m h)
end
mutual
theorem HO:∀ (t:T) (l:List Int),l.Nodup->(fV t l).Nodup
 | .mk k n s ks,l,h=>by
  rw [fV];refine lT ks _ ?_;split
  ·exact Ju n h
  ·exact h
theorem lT:∀ (ts:List T) (l:List Int),l.Nodup->(dk ts l).Nodup
 | [],l,h=>h
 | t::ts,l,h=>by
  rw [dk];exact lT ts _ (HO t l h)
end
mutual
theorem GQ {vs ws:List Int} (h:∀ m∈vs,m∈ws):∀ t:T,inT vs t->inT ws t
 | .mk k n s ks,hi=>by
  rw [inT] at hi ⊢;exact ⟨fun e=>h _ (hi.1 e),IU h ks hi.2⟩
theorem IU {vs ws:List Int} (h:∀ m∈vs,m∈ws):∀ ts:List T,inL vs ts->inL ws ts
 | [],_=>by simp [inL]
 | t::ts,hi=>by
  rw [inL] at hi ⊢;exact ⟨GQ h t hi.1,IU h ts hi.2⟩
end
mutual
theorem Ok:∀ (t:T) (l:List Int),inT (fV t l) t
 | .mk k n s ks,l=>by
  rw [fV,inT];refine ⟨fun e=>qx ks _ n ?_,oT ks _⟩;rw [af e];exact (Hh l n).1
theorem oT:∀ (ts:List T) (l:List Int),inL (dk ts l) ts
 | [],l=>by simp [inL]
 | t::ts,l=>by
  rw [dk,inL];exact ⟨GQ (qx ts _) t (Ok t l),oT ts _⟩
end
theorem IK {t:T} (h:eV t=true) (hk:t.kind=1):t.name=emptyB/\t.kids.length=0:=by
 unfold eV at h;rw [af hk] at h;simp only [bJ,bE] at h;exact ⟨h.2.2.1,h.2.2.2⟩
mutual
theorem LR (vs:List Int) (i:vs.Nodup):∀ (t:T) (d:Int),dx t d=true->inT vs t->el vs t=lS vs t
 | .mk k n s ks,d,h,hi=>by
  rw [dx] at h;rw [inT] at hi;split at h
  ·cases h
  ·rw [bJ] at h;have m:=Fo vs i ks (d - 1) h.2 hi.2;rw [el,lS];by_cases e:k=1
   ·obtain ⟨j,l⟩:=IK h.1 e;have a:s=⟨#[]⟩:=j;have g:ks=[]:=jK l;subst a g e;rw [af rfl,af rfl,wN vs n n 0 (hi.1 rfl) i];rfl
   ·rw [ae e,ae e,m]
theorem Fo (vs:List Int) (a:vs.Nodup):∀ (ts:List T) (d:Int),dj ts d=true->inL vs ts->gp vs ts=gV vs ts
 | [],d,_,_=>rfl
 | t::ts,d,h,hi=>by
  rw [dj,bJ] at h;rw [inL] at hi;rw [gp,gV,LR vs a t d h.1 hi.1,Fo vs a ts d h.2 hi.2]
end
theorem wb (vs:List Int):∀ ts:List T,(gp vs ts).length=ts.length
 | []=>rfl
 | t::ts=>by rw [gp]; simp [wb vs ts]
theorem qA (vs:List Int):∀ ts:List T,(gV vs ts).length=ts.length
 | []=>rfl
 | t::ts=>by rw [gV]; simp [qA vs ts]
theorem z3 (vs:List Int) (ts:List T) (j:Nat) (h:j<ts.length):gV vs (ts.take (j+1))=gV vs (ts.take j)++[lS vs ts[j]]:=by
 have:∀ (xs ys:List T),gV vs (xs++ys)=gV vs xs++gV vs ys:=by
  intro xs ys;induction xs with
  | nil=>rfl
  | cons x xs a=>simp [gV,a]
 rw [ia h,this]; rfl
def sr (vs:List Int) (c:C):C:=⟨el vs c.head,gp vs c.body⟩
def bP (c:C):List Int:=ja (c.head::c.body) []
theorem FR {c:C} (h:a9 c=true):dk (c.head::c.body) []=bP c/\lS (bP c) c.head=el (bP c) c.head/\gV (bP c) c.body=gp (bP c) c.body:=by
 have a:dk (c.head::c.body) []=bP c:=by
  rw [bP,dk,ja,<- (yd h []).1,(yd h (nR c.head [])).2]
 have l:(bP c).Nodup:=by rw [<- a]; exact lT _ _ List.nodup_nil
 have g:inL (bP c) (c.head::c.body):=by rw [<- a]; exact oT _ _
 rw [inL] at g;rw [a9] at h;simp only [bJ,fS] at h;obtain ⟨_,p,j,_⟩:=h;rw [cA,bJ] at j;have q:∀ ts:List T,(∀ t∈ts,eI t=true)->dj ts 30=true:=by
  intro ts;induction ts with
  | nil=>intro _; rfl
  | cons t ts r=>
   intro i;rw [dj,bJ];have m:=i t (bL ..);rw [eI,bJ,cA,bJ] at m;exact ⟨m.1.1,r fun u o=>i u (bV _ o)⟩
 exact ⟨a,(LR _ l _ _ j.1 g.1).symm,(Fo _ l _ _ (q _ p) g.2).symm⟩
end
section
open Go Go.RowKit
section
attribute [local irreducible] Run CondV aC aU
theorem Fc {c0:C} {S:ag} {cs:List Value} (h:RdC S cs c0) (hw:wC c0<=1048576):Tri Tryz.prog At [.agg cs.toArray] [] S (Ra S c0):=by
 intro w a;obtain ⟨hd,ks,rfl,h1,h2⟩:=h;have a9:=h1;obtain ⟨kv,rfl,g1,g2,g3,g4⟩:=RdT.iff.1 h1;unfold wC at hw;refine ly.2 ?_;dsimp only[ly,aQ];refine bH a fun b1 w' a=>?_;refine aH a dn fun b2 w' a=>?_;refine au cC ?_;refine fo a 0 [.int .i64 c0.head.kind,.int .i64 c0.head.n,.string c0.head.name,kv] ad rfl rfl Kl ?_;refine Run.call0 gv gd a (iC _ S _ a9 (by omega)) fun v' I' S w'=>?_;rintro ⟨rfl,b4,N,rfl,rfl,a2⟩ _ a;obtain ⟨t,rfl,_⟩:=TrT.iff.1 a2;refine lA ?_;refine aH a dn fun b3 w' a=>?_;have a:=a.perm (M:=.blk b1 _::.blk b2 _::.blk b3 _::bG N) (((bK (l₁:=[_])).cons _).cons _);refine al a 2 rfl aN rfl rfl ?_ fun w' a=>?_
 ·intro u hu;have a0:u∈([.int .i64 c0.head.kind,.int .i64 c0.head.n,.string c0.head.name,t,.slice none 0 0]:List Value):=hu;simp at a0;have o1:t.oneCell'=true:=a2.one t (by simp);rcases a0 with rfl|rfl|rfl|rfl|rfl <;> first|rfl|exact o1
 have a:=a.rowNil ac 4;have a:=a.perm (M:=.blk b1 (.cells #[.int .i64 c0.head.kind,.int .i64 c0.head.n,.string c0.head.name,kv,ks] ai)::.blk b2 (.cells #[.int .i64 0,.int .i64 0,.string ⟨#[]⟩,.slice none 0 0,.slice none 0 0] ai)::.blk b3 (.cells #[.int .i64 c0.head.kind,.int .i64 c0.head.n,.string c0.head.name,t,.slice none 0 0] ai)::aB (.slice none 0 0) ac 4 []::bG N) ((((bK (l₁:=[_])).cons _).cons _).cons _);refine ⟨fun i w'=>∃ (j:Nat) (l:Value) (Ls:List bu) (css:List (List Value)),j<=c0.body.length/\i=.int .i64 j/\Grown 4 TrT Ls css (c0.body.take j)/\
   Inv w [] (.blk b1 (.cells #[.int .i64 c0.head.kind,.int .i64 c0.head.n,.string c0.head.name,kv,ks] ai)::.blk b2 (.cells #[.int .i64 0,.int .i64 0,.string ⟨#[]⟩,.slice none 0 0,.slice none 0 0] ai)::.blk b3 (.cells #[.int .i64 c0.head.kind,.int .i64 c0.head.n,.string c0.head.name,t,l] ai)::aB l ac 4 css::bG (N::Ls).flatten) S w',
  fun i _=>c0.body.length - (intOf i).toNat,⟨0,_,[],[],aK _,rfl,Grown.nil _ _,by simp only [iX,s4,dc]; exact a⟩,?_⟩
 intro t4 _ _ _ _ _ _ _ _ _ _ _ _ _ _ _ _ _ _ w';rintro ⟨j,l,Ls,css,hj,rfl,hg,a⟩;refine ah a 0 rfl bC ax rfl ?_;refine aG h2 ao ?_;refine cu ?_;refine aS (fun a7=>?_) (fun a7=>?_)
 ·have a1:j<c0.body.length:=by omega
  have b5:(c0.body.take j).length=j:=by simp; omega
  have b6:=hg.hc;have hm:=cH a1;have b7:=qk hm;obtain ⟨b,o,cap,c,E,fz,rfl,hS,hR⟩:=h2.at_ a1;refine ⟨fun D tq V pT rU ry oQ nq pX xy nr sY w_=>Fx D 0 [sY=.pointer (some ⟨b3,4,none⟩),nr=l,xy=.pointer (some ⟨b1,4,none⟩),pX=.slice (some ⟨b,o,none⟩) (c0.body).length cap,nq=.int .i64 j,oQ=.pointer (some ⟨b,o+j * 4,none⟩),ry=.agg (bB c (o+j * 4) 4).toArray,True,True,True,tq=.pointer (some ⟨b3,4,none⟩),True]/\∃ M g r,(D 7=true->rU=.agg g.toArray/\TrT M g (c0.body)[j])/\(D 8=true->pT=.slice (some ⟨r,0,none⟩) 1 1)/\(D 8=true->D 7=true)/\(D 9=true->D 8=true)/\(D 11=true->D 9=true)/\(D 11=true->D 1=true)/\Inv w [] (bz (.blk b1 (.cells #[.int .i64 c0.head.kind,.int .i64 c0.head.n,.string c0.head.name,kv,.slice (some ⟨b,o,none⟩) c0.body.length cap] ai)) (.blk b2 (.cells #[.int .i64 0,.int .i64 0,.string ⟨#[]⟩,.slice none 0 0,.slice none 0 0] ai)) (.blk b3 (.cells #[.int .i64 c0.head.kind,.int .i64 c0.head.n,.string c0.head.name,t,l] ai)) (.blk b3 (.cells #[.int .i64 c0.head.kind,.int .i64 c0.head.n,.string c0.head.name,t,V] ai)) (aB l ac 4 css) (aB V ac 4 (css++[g])) (bG (N::Ls).flatten) M (.blk r (.cells g.toArray ac)) (D 7) (D 8) (D 9) (D 11)) S w_,⟨Fx.nil _ _,⟨[],[],0,aY,aY,aY,aY,aY,aY,by simpa [bz,bG] using a.draw⟩⟩,⟨?_,?_,?_,?_,?_,?_,?_,?_,?_,?_,?_,?_,trivial⟩,?_⟩;all_goals (intro D Z; intros; rename_i tq V pT rU ry oQ nq pX xy nr sY w_ a4; have q:=a4.1; obtain ⟨⟨cG,cf,cD,cF,bQ,cE,bZ,cL,dw,dl,ci,c8,_⟩,⟨M,g,r,G,Y,O,J,p,U,a⟩⟩:=a4)
  ·refine au bC ?_;exact ⟨q.set 0 rfl,⟨M,g,r,G,Y,O,J,p,U,a⟩⟩
  ·obtain rfl:=cG ‹_›;have B:D 11=false:=cS.2 fun h=>by rw [U h] at Z; cases Z
   refine aD (b:=b3) a 2 (c:=(#[.int .i64 c0.head.kind,.int .i64 c0.head.n,.string c0.head.name,t,l])) ax (by rw [B]; rfl) rfl ?_;have U:=fun (_:aE D 1 11=true)=>(rfl:aE D 1 1=true)
   exact ⟨q.set 1 rfl,⟨M,g,r,G,Y,O,J,p,U,a⟩⟩
  ·refine au bC ?_;exact ⟨q.set 2 rfl,⟨M,g,r,G,Y,O,J,p,U,a⟩⟩
  ·obtain rfl:=cD ‹_›;refine aD a 0 ax rfl rfl ?_;exact ⟨q.set 3 rfl,⟨M,g,r,G,Y,O,J,p,U,a⟩⟩
  ·exact ⟨q.set 4 rfl,⟨M,g,r,G,Y,O,J,p,U,a⟩⟩
  ·obtain rfl:=cF ‹_›;obtain rfl:=bQ ‹_›;refine aT ao a1 ?_;exact ⟨q.set 5 rfl,⟨M,g,r,G,Y,O,J,p,U,a⟩⟩
  ·obtain rfl:=cE ‹_›;refine dX ad hR.length (fun j v hj=>by rw [a.cellS hS]; exact bd rfl j v hj) ?_;exact ⟨q.set 6 rfl,⟨M,g,r,G,Y,O,J,p,U,a⟩⟩
  ·obtain rfl:=bZ ‹_›;have f8:D 8=false:=cS.2 fun h=>by rw [O h] at Z; cases Z
   have f9:D 9=false:=cS.2 fun h=>by rw [J h] at f8; cases f8
   have B:D 11=false:=cS.2 fun h=>by rw [p h] at f9; cases f9
   rw [Z,f8,f9,B] at a;refine Run.call0 gv gd a (iC _ S _ hR (by omega)) fun v' I' S w_=>?_;rintro ⟨rfl,g,M,rfl,rfl,hT⟩ _ a;have G:aE D 7 7=true->Value.agg g.toArray=Value.agg g.toArray/\TrT M g (c0.body)[j]:=fun _=>⟨rfl,hT⟩
   have O:=fun (_:aE D 7 8=true)=>(rfl:aE D 7 7=true)
   have a:Inv w [] (bz (.blk b1 (.cells #[.int .i64 c0.head.kind,.int .i64 c0.head.n,.string c0.head.name,kv,.slice (some ⟨b,o,none⟩) c0.body.length cap] ai)) (.blk b2 (.cells #[.int .i64 0,.int .i64 0,.string ⟨#[]⟩,.slice none 0 0,.slice none 0 0] ai)) (.blk b3 (.cells #[.int .i64 c0.head.kind,.int .i64 c0.head.n,.string c0.head.name,t,l] ai)) (.blk b3 (.cells #[.int .i64 c0.head.kind,.int .i64 c0.head.n,.string c0.head.name,t,V] ai)) (aB l ac 4 css) (aB V ac 4 (css++[g])) (bG (N::Ls).flatten) M (.blk r (.cells g.toArray ac)) true (D 8) (D 9) (D 11)) S w_:=by
    rw [f8,f9,B];simpa [bz] using a
   exact ⟨q.set 7 (by first|assumption|trivial),⟨M,g,r,G,Y,O,J,p,U,a⟩⟩
  ·have Cs:=cL ‹_›;have f9:D 9=false:=cS.2 fun h=>by rw [J h] at Z; cases Z
   have B:D 11=false:=cS.2 fun h=>by rw [p h] at f9; cases f9
   obtain ⟨q7,hT⟩:=G ‹D 7=true›;subst q7;rw [‹D 7=true›,Z,f9,B] at a;refine eQ a bA (by simp [Value.cells,hT.length]) (by omega) (by omega) fun r w_ a=>?_;have G:aE D 8 7=true->Value.agg g.toArray=Value.agg g.toArray/\TrT M g (c0.body)[j]:=fun _=>⟨rfl,hT⟩
   have Y:=fun (_:aE D 8 8=true)=>(rfl:Value.slice (some ⟨r,0,none⟩) 1 1=_)
   have O:=fun (_:aE D 8 8=true)=>‹D 7=true›;have J:=fun (_:aE D 8 9=true)=>(rfl:aE D 8 8=true)
   have a:Inv w [] (bz (.blk b1 (.cells #[.int .i64 c0.head.kind,.int .i64 c0.head.n,.string c0.head.name,kv,.slice (some ⟨b,o,none⟩) c0.body.length cap] ai)) (.blk b2 (.cells #[.int .i64 0,.int .i64 0,.string ⟨#[]⟩,.slice none 0 0,.slice none 0 0] ai)) (.blk b3 (.cells #[.int .i64 c0.head.kind,.int .i64 c0.head.n,.string c0.head.name,t,l] ai)) (.blk b3 (.cells #[.int .i64 c0.head.kind,.int .i64 c0.head.n,.string c0.head.name,t,V] ai)) (aB l ac 4 css) (aB V ac 4 (css++[g])) (bG (N::Ls).flatten) M (.blk r (.cells g.toArray ac)) (D 7) true (D 9) (D 11)) S w_:=by
    rw [‹D 7=true›,f9,B];simpa [bz,Value.cells] using a
   exact ⟨q.set 8 (by first|assumption|trivial),⟨M,g,r,G,Y,O,J,p,U,a⟩⟩
  ·obtain rfl:=cf ‹_›;have GD:=dw ‹_›;have B:D 11=false:=cS.2 fun h=>by rw [p h] at Z; cases Z
   have q8:=Y ‹D 8=true›;subst q8;obtain ⟨_,hT⟩:=G ‹D 7=true›;rw [‹D 7=true›,‹D 8=true›,Z,B] at a;have a5:((bz (.blk b1 (.cells #[.int .i64 c0.head.kind,.int .i64 c0.head.n,.string c0.head.name,kv,.slice (some ⟨b,o,none⟩) c0.body.length cap] ai)) (.blk b2 (.cells #[.int .i64 0,.int .i64 0,.string ⟨#[]⟩,.slice none 0 0,.slice none 0 0] ai)) (.blk b3 (.cells #[.int .i64 c0.head.kind,.int .i64 c0.head.n,.string c0.head.name,t,nr] ai)) (.blk b3 (.cells #[.int .i64 c0.head.kind,.int .i64 c0.head.n,.string c0.head.name,t,V] ai)) (aB nr ac 4 css) (aB V ac 4 (css++[g])) (bG (N::Ls).flatten) M (.blk r (.cells g.toArray ac)) true true false false))[4+(bG (N::Ls).flatten).length+(bG M).length]?=some (.blk r (.cells g.toArray ac)):=by
    have e4:4+(bG (N::Ls).flatten).length+(bG M).length=((bG (N::Ls).flatten).length+(bG M).length)+1+1+1+1:=by omega
    rw [e4];simp only [bz,lY];rw [kV (by omega),sP,kV (be _),fg]; rfl
   refine eU a 3 g bA (by omega) rfl (by rw [hT.length]) (m:=1) (o:=0) ?_ hT.one (by omega) (by omega) fun v' w_ a=>?_
   ·intro i u hi;rw [a.cellL a5,df];simpa using hi
   rw [fq] at a;have J:=fun (_:aE D 9 9=true)=>‹D 8=true›;have p:=fun (_:aE D 9 11=true)=>(rfl:aE D 9 9=true)
   have a:Inv w [] (bz (.blk b1 (.cells #[.int .i64 c0.head.kind,.int .i64 c0.head.n,.string c0.head.name,kv,.slice (some ⟨b,o,none⟩) c0.body.length cap] ai)) (.blk b2 (.cells #[.int .i64 0,.int .i64 0,.string ⟨#[]⟩,.slice none 0 0,.slice none 0 0] ai)) (.blk b3 (.cells #[.int .i64 c0.head.kind,.int .i64 c0.head.n,.string c0.head.name,t,nr] ai)) (.blk b3 (.cells #[.int .i64 c0.head.kind,.int .i64 c0.head.n,.string c0.head.name,t,v'] ai)) (aB nr ac 4 css) (aB v' ac 4 (css++[g])) (bG (N::Ls).flatten) M (.blk r (.cells g.toArray ac)) (D 7) (D 8) true (D 11)) S w_:=by
    rw [‹D 7=true›,‹D 8=true›,B];exact a
   exact ⟨q.set 9 (by first|assumption|trivial),⟨M,g,r,G,Y,O,J,p,U,a⟩⟩
  ·refine au bC ?_;exact ⟨q.set 10 rfl,⟨M,g,r,G,Y,O,J,p,U,a⟩⟩
  ·obtain rfl:=ci ‹_›;have DC:=dl ‹_›;rw [‹D 7=true›,‹D 8=true›,‹D 9=true›,Z] at a;obtain ⟨va,vn,vc,a3⟩:=Inv.rowSlice a 3 rfl;refine ef a 2 (n:=1) (by rw [a3]; rfl) (by decide +kernel) rfl (by simp) (by rw [a3]; simp [Value.cells,Value.oneCell']) fun w_ a=>?_;have a6:Value.cells V=#[V]:=by rw [a3]; rfl
   rw [a6] at a;have U:=fun (_:aE D 11 11=true)=>‹D 1=true›;have p:=fun (_:aE D 11 11=true)=>‹D 9=true›;have a:Inv w [] (bz (.blk b1 (.cells #[.int .i64 c0.head.kind,.int .i64 c0.head.n,.string c0.head.name,kv,.slice (some ⟨b,o,none⟩) c0.body.length cap] ai)) (.blk b2 (.cells #[.int .i64 0,.int .i64 0,.string ⟨#[]⟩,.slice none 0 0,.slice none 0 0] ai)) (.blk b3 (.cells #[.int .i64 c0.head.kind,.int .i64 c0.head.n,.string c0.head.name,t,l] ai)) (.blk b3 (.cells #[.int .i64 c0.head.kind,.int .i64 c0.head.n,.string c0.head.name,t,V] ai)) (aB l ac 4 css) (aB V ac 4 (css++[g])) (bG (N::Ls).flatten) M (.blk r (.cells g.toArray ac)) (D 7) (D 8) (D 9) true) S w_:=by
    rw [‹D 7=true›,‹D 8=true›,‹D 9=true›];exact a
   exact ⟨q.set 11 trivial,⟨M,g,r,G,Y,O,J,p,U,a⟩⟩
  obtain ⟨rfl,rfl,rfl,rfl,rfl,rfl,rfl,Cs,GD,DC,rfl,_,_⟩:=q.all;have sZ:D 7=true:=by assumption
  have Lh:D 8=true:=by assumption
  have NF:D 9=true:=by assumption
  have r6:D 11=true:=by assumption
  clear q cG cf cD cF bQ cE bZ cL dw dl ci c8;obtain ⟨_,hT⟩:=G sZ;rw [sZ,Lh,NF,r6] at a;refine bF (by omega) ?_;refine ⟨⟨j+1,V,Ls++[M],css++[g],a1,rfl,?_,?_⟩,by simp [intOf]; omega⟩
  ·rw [ia a1];exact hg.snoc hT hT.length
  ·rw [<- dQ,BP,eK];simp only [iX,s4,dc];refine a.sub ?_;simp only [bz,iX];rw [<- cN];exact (((gR _ _).cons_cons _).cons_cons _).cons_cons _ |>.cons_cons _
 ·have:j=c0.body.length:=by omega
  subst this;rw [iz] at hg;obtain ⟨va,vn,vc,a8⟩:=a.rowSlice 3 rfl;have b0:l.oneCell'=true:=by rw [a8]; rfl
  have o1:t.oneCell'=true:=a2.one t (by simp);refine aq a 2 aN rfl rfl ?_;refine al a 1 rfl aN rfl rfl ?_ fun w' a=>?_
  ·intro u hu;have a0:u∈([.int .i64 c0.head.kind,.int .i64 c0.head.n,.string c0.head.name,t,l]:List Value):=hu;simp at a0;rcases a0 with rfl|rfl|rfl|rfl|rfl <;> first|rfl|exact o1|exact b0
  refine bp a 1 aN rfl rfl ?_;have a:Inv w [] (aB l ac 4 css::bG (N::Ls).flatten) S w':=a.sub (dU [_,_,_] _);rw [iX,eK] at a;have a:=a.perm (M:=bG N++(aB l ac 4 css::bG Ls.flatten)) (zal101);obtain ⟨L,hT,a⟩:=Inv.rowTree a hg;exact ⟨_,_,_,rfl,a,Ext.refl _ _ _,rfl,_,N++L,rfl,by rw [eK],_,l,N,L,rfl,rfl,a2,hT⟩
end
end
section
open Go Go.RowKit
section
variable {P:Program} {w w0:World} {X:List Nat} {L:List Item} {S:ag} {K:Value->World->Prop}
theorem MI (h:Inv w0 X L S w) {T ty e:TypeId} {k m n q:Nat} {z v:Value} {cs:List Bool} {xs:List Value} {a:Option Addr} (i:Nat)
  (r:iB P T=some (e,k,m,z)) (t:L[i]?=some (.row v e k n xs)) (hk:K v w) :
  Run P (bO .append #[T,T] ty cs [v,.slice a 0 q]) w K:=by
 obtain ⟨p,u,l,J,M,N,B⟩:=kz r;have j:=h.its _ (fj t);simp only [Item.holds] at j;refine Run.of (v:=v) (w':=w) ?_ hk;rcases j.2 with ⟨rfl,rfl⟩|⟨g,cap,C,rfl,_,O,o,D,G,U⟩
 ·cases a <;> simp [bO,builtin,Builtin.append_,run_underlying p,sizeOf,typeInfo,l,Builtin.lenOf,Builtin.firstCells,loadCells,loadCellsFrom]
 ·cases a <;> simp [bO,builtin,Builtin.append_,run_underlying p,sizeOf,typeInfo,l,storeCells,o,Builtin.lenOf,Builtin.firstCells,loadCells,loadCellsFrom]
end
end
section
open Go Go.RowKit

structure Rows {α:Type} (k:Nat) (R:List Value->α->Prop) (css:List (List Value)) (ys:List α):Prop where
 hc:css.length=ys.length
 hk:∀ cs∈css,cs.length=k
 hR:∀ i (h:i<ys.length) (h1:i<css.length),R css[i] ys[i]
theorem Rows.nil {α:Type} (k:Nat) (R:List Value->α->Prop):Rows k R [] ([]:List α):=⟨rfl,by simp,fun i h=>by simp at h⟩
theorem Rows.snoc {α:Type} {k:Nat} {R:List Value->α->Prop} {css:List (List Value)} {ys:List α} (h:Rows k R css ys) {cs:List Value} {y:α} (hR:R cs y) (g:cs.length=k):Rows k R (css++[cs]) (ys++[y]):=by
 refine ⟨by simp [h.hc],fun c hc=>?_,fun i j m=>?_⟩
 ·rcases cI.1 hc with hc|hc
  ·exact h.hk c hc
  ·simp at hc; subst hc; exact g
 ·have l:=h.hc;by_cases a:i<ys.length
  ·rw [oo (by omega),oo a];exact h.hR i a (by omega)
  ·have:i=ys.length:=by simp at j; omega
   subst this;rw [pM (by omega),pM (by omega)];simp only [l,fg,oC];exact hR
theorem Rows.append {α:Type} {k:Nat} {R:List Value->α->Prop} {css a:List (List Value)} {ys g:List α} (h:Rows k R css ys) (j:Rows k R a g):Rows k R (css++a) (ys++g):=by
 have e:=h.hc;have p:=j.hc;refine ⟨by simp [e,p],fun c hc=>?_,fun i o q=>?_⟩
 ·rcases cI.1 hc with hc|hc
  ·exact h.hk c hc
  ·exact j.hk c hc
 ·by_cases m:i<ys.length
  ·rw [oo (by omega),oo m];exact h.hR i m (by omega)
  ·have l:i - css.length<g.length:=by simp at o; omega
   rw [pM (by omega),pM (by omega)];have:=j.hR (i - css.length) l (by omega);simpa only [e] using this
theorem RowRd.rows {α:Type} {S:ag} {v:Value} {e:TypeId} {k:Nat} {R:List Value->α->Prop} {css:List (List Value)} {ys:List α} (a:Rows k R css ys) (h:RowRd S v e k css.length css.flatten):RdSl S k R v ys:=by
 obtain ⟨B,h⟩:=h;have j:=a.hc;rcases h with ⟨rfl,C⟩|⟨g,cap,l,rfl,q,r,m,t,u⟩
 ·have:ys=[]:=jK (by omega);subst this;exact ⟨none,0,rfl,be _,aK _,.inl rfl⟩
 ·refine ⟨_,cap,by rw [j],by omega,m,.inr ⟨g,0,l,e,(0,0),rfl,q,fun i o=>?_⟩⟩;have:=gl k css i a.hk (by omega);have p:i * k+k<=css.length * k:=by rw [<- jc]; exact fH k (by omega)
  rw [<- u,Hr,Fg,AM (by omega)] at this;rw [bB,df,this];exact a.hR i o (by omega)
theorem jD {k:Nat}:∀ {css:List (List Value)},(∀ cs∈css,cs.length=k)->css.flatten.length=css.length * k
 | [],_=>by simp
 | c::css,h=>by
  have:=jD (css:=css) fun cs hc=>h cs (bV _ hc);rw [iX,bv,h c (bL ..),this,aO,jc,Nat.add_comm]
section
variable {P:Program} {w w0:World} {X:List Nat} {L:List Item} {S:ag} {K:Value->World->Prop}
attribute [local irreducible] Run CondV aC aU
end
end
section
open Go Go.RowKit

theorem kl {P:Program} {T e:TypeId} {k:Nat} (h:cY P T=some (e,k)):P.underlying T=some (.slice e)/\∃ i,P.info? e=some i/\i.size=k:=by
 unfold cY at h;split at h
 ·rename_i l g
  rw [l0] at h;obtain ⟨i,j,a⟩:=h;simp only [di] at a;obtain ⟨rfl,rfl⟩:=a;exact ⟨g,i,j,rfl⟩
 ·cases h
section
variable {P:Program} {w:World} {K:Value->World->Prop}
attribute [local irreducible] Run
theorem ij {n y:Nat} {code:BoundsCode} (h:n<=y):(Instr.sliceBound (.int .i64 n) y code).run P w=.ok n w:=by
 have a:(0:Int)<=(n:Int)/\(n:Int)<=(y:Int):=by omega
 simp [Instr.sliceBound,asIntOf,h]
theorem Rn {T ty e:TypeId} {k h len cap:Nat} {a:Option Addr} (g:cY P T=some (e,k)) (j:h<=cap) (hk:K (.slice (if cap=0 then a else a.map (·.add (0 * k))) h cap) w) :
  Run P (sOp (.slice T (.const (.slice a len cap)) none (some (.const (.int .i64 h))) none) ty) w K:=by
 obtain ⟨l,i,m,_⟩:=kl g;refine Run.of ?_ hk;simp [sOp,execOp,ev0,evE,Instr.sliceAt,Instr.slice,Instr.sliceBounds,run_underlying l,ij j,sizeOf,typeInfo,m]
theorem Jc {T ty e:TypeId} {k l len cap:Nat} {a:Option Addr} (g:cY P T=some (e,k)) (h:l<=len) (hk:K (.slice (if cap=l then a else a.map (·.add (l * k))) (len - l) (cap - l)) w) :
  Run P (sOp (.slice T (.const (.slice a len cap)) (some (.const (.int .i64 l))) none none) ty) w K:=by
 obtain ⟨j,i,m,o⟩:=kl g;refine Run.of ?_ hk;simp [sOp,execOp,ev0,evE,Instr.sliceAt,Instr.slice,Instr.sliceBounds,run_underlying j,ij h,sizeOf,typeInfo,m,o]
theorem PU {T ty e:TypeId} {k l h len cap:Nat} {a:Option Addr} (g:cY P T=some (e,k)) (j:l<=h) (m:h<=cap) (hk:K (.slice (if cap=l then a else a.map (·.add (l * k))) (h - l) (cap - l)) w) :
  Run P (sOp (.slice T (.const (.slice a len cap)) (some (.const (.int .i64 l))) (some (.const (.int .i64 h))) none) ty) w K:=by
 obtain ⟨o,i,p,q⟩:=kl g;refine Run.of ?_ hk;simp [sOp,execOp,ev0,evE,Instr.sliceAt,Instr.slice,Instr.sliceBounds,run_underlying o,ij j,ij m,sizeOf,typeInfo,p,q]
end
theorem RdSl.to {α:Type} {S:ag} {k:Nat} {R:List Value->α->Prop} {a:Option Addr} {cap n h:Nat} {xs:List α} (g:RdSl S k R (.slice a n cap) xs) (r:h<=xs.length) :
  RdSl S k R (.slice (if cap=0 then a else a.map (·.add (0 * k))) h cap) (xs.take h):=by
 obtain ⟨u,j,e,B,hc,g⟩:=g;simp only [Value.slice.injEq] at e;obtain ⟨rfl,rfl,rfl⟩:=e;have l:(if cap=0 then a else a.map (·.add (0 * k)))=a:=by
  split
  ·rfl
  ·cases a <;> simp [Addr.add]
 rw [l];have m:h=(xs.take h).length:=by rw [iJ]; omega
 refine ⟨a,cap,by rw [<- m],by omega,hc,?_⟩;rcases g with rfl|⟨b,o,c,E,p,rfl,q,hR⟩
 ·left; simp
 ·right;refine ⟨b,o,c,E,p,rfl,q,fun i t=>?_⟩;rw [Oq];exact hR i (by omega)
theorem RdSl.from {α:Type} {S:ag} {k:Nat} {R:List Value->α->Prop} {a:Option Addr} {cap n l:Nat} {xs:List α} (g:RdSl S k R (.slice a n cap) xs) (B:l<=xs.length) :
  RdSl S k R (.slice (if cap=l then a else a.map (·.add (l * k))) (n - l) (cap - l)) (xs.drop l):=by
 obtain ⟨C,m,e,q,hc,g⟩:=g;simp only [Value.slice.injEq] at e;obtain ⟨rfl,rfl,rfl⟩:=e;refine ⟨_,cap - l,by rw [tu],by rw [tu]; omega,by omega,?_⟩;by_cases j:xs.drop l=[]
 ·exact .inl j
 ·rcases g with rfl|⟨b,o,c,E,t,rfl,u,hR⟩
  ·simp at j
  ·right;have r:l<xs.length:=by
    rcases FE l xs.length with h|h
    ·exact h
    ·exact absurd (Cj h) j
   refine ⟨b,o+l * k,c,E,t,?_,u,fun i p=>?_⟩
   ·rw [ae (by omega)];simp [Addr.add]
   ·rw [List.getElem_drop];have:=hR (l+i) (by simp at p; omega)
    rwa [gq,<- Nat.add_assoc] at this
section
variable {P:Program} {w w0:World} {X:List Nat} {L:List Item} {S:ag} {K:Value->World->Prop}
attribute [local irreducible] Run CondV aC aU
theorem ql {α:Type} {R:List Value->α->Prop} {xs:List α} {v:Value} {T ty e:TypeId} {k l:Nat} (i:cY P T=some (e,k)) (g:RdSl S k R v xs) (h:l<=xs.length)
  (hk:∀ v',RdSl S k R v' (xs.drop l)->K v' w):Run P (sOp (.slice T (.const v) (some (.const (.int .i64 l))) none none) ty) w K:=by
 obtain ⟨a,cap,rfl,j,hc,m⟩:=id g;exact Jc i h (hk _ (g.from h))
end
theorem RdSl.exact {α:Type} {S:ag} {k:Nat} {R:List Value->α->Prop} {v:Value} {ys:List α} (h:RdSl S k R v ys) (hk:∀ cs y,R cs y->cs.length=k) :
  ∃ ds:List {cs:List Value // cs.length=k},RdSl S k (fun cs d=>cs=d.val) v ds/\Rows k R (ds.map (·.val)) ys:=by
 obtain ⟨a,cap,rfl,j,hc,m⟩:=h;rcases m with rfl|⟨b,o,c,E,p,rfl,q,hR⟩
 ·exact ⟨[],⟨a,cap,rfl,j,hc,.inl rfl⟩,Rows.nil _ _⟩
 ·refine ⟨List.ofFn fun i:Fin ys.length=>⟨bB c (o+i.val * k) k,hk _ _ (hR i.val i.isLt)⟩,⟨_,cap,by rw [List.length_ofFn],by rw [List.length_ofFn]; exact j,hc,.inr ⟨b,o,c,E,p,rfl,q,fun i r=>by simp⟩⟩,⟨by simp,fun cs g=>?_,fun i l t=>?_⟩⟩
  ·obtain ⟨d,_,rfl⟩:=ng.1 g;exact d.property
  ·simp only [Bq,List.getElem_ofFn];exact hR i l
section
variable {P:Program} {w w0:World} {X:List Nat} {L:List Item} {S:ag} {K:Value->World->Prop}
attribute [local irreducible] Run CondV aC aU
theorem hK {α:Type} {R:List Value->α->Prop} (h:Inv w0 X L S w) {T ty e:TypeId} {k t:Nat} {z v u:Value} {cs:List Bool} {css:List (List Value)} {ys:List α} (i:Nat)
  (Y:iB P T=some (e,k,t,z)) (p:0<k) (J:L[i]?=some (aB v e k css)) (hr:RdSl S k R u ys) (B:∀ cs y,R cs y->cs.length=k) (h1:∀ cs y,R cs y->∀ c∈cs,c.oneCell'=true)
  (Z:css.length+ys.length<=4294967296) (M:t<=32768) (hk:∀ v' w' m,Rows k R m ys->Inv w0 X (L.set i (aB v' e k (css++m))) S w'->K v' w') :
  Run P (bO .append #[T,T] ty cs [v,u]) w K:=by
 obtain ⟨ds,hd,hR⟩:=hr.exact B;have a3:ds.length=ys.length:=by have:=hR.hc; simpa using this
 have D:∀ d∈ds,∀ c∈d.val,c.oneCell'=true:=by
  intro d q c hc;obtain ⟨j,C,rfl⟩:=Lx.1 q;have:=hR.hR j (by omega) (by simpa using C);simp only [Bq] at this;exact h1 _ _ this c hc
 obtain ⟨a,cap,rfl,a0,a1,hx⟩:=id hd;have e1:∀ v',Item.row v' e k (css.length+ds.length) (css.flatten++(ds.map (·.val)).flatten)=aB v' e k (css++ds.map (·.val)):=fun v'=>by simp [aB]
 rcases hx with rfl|⟨b,o,c,E,fz,rfl,hS,V⟩
 ·refine MI h i Y J (hk v w [] (by simpa using hR) ?_);have:L.set i (aB v e k (css++[]))=L:=by
   obtain ⟨a2,e'⟩:=iu.1 J;rw [dc,<- e',List.set_getElem_self]
  rw [this];exact h
 ·have G:(ds.map (·.val)).flatten.length=ds.length * k:=by
   rw [jD (k:=k) (fun cs g=>by obtain ⟨d,_,rfl⟩:=ng.1 g; exact d.property),ut]
  refine eU h i (ds.map (·.val)).flatten Y p J G ?_ ?_ (by omega) M fun v' w' hI=>hk _ _ _ hR ?_
  ·intro j u C;have O:j<ds.length * k:=by
    rw [<- G];exact (iu.1 C).1
   have hq:j / k<ds.length:=(Nat.div_lt_iff_lt_mul p).2 O;have r:=V (j / k) hq;have l:=gl k (ds.map (·.val)) (j / k) (fun cs g=>by obtain ⟨d,_,rfl⟩:=ng.1 g; exact d.property) (by simpa using hq);have U:=Nat.div_add_mod j k;rw [Nat.mul_comm] at U;rw [h.cellS hS];have e2:(ds.map (·.val)).flatten[j]?=(ds[j / k].val)[j % k]?:=by
    rw [Bq] at l;rw [<- l,yI,af (wv _ p),xI]
    congr 1
    omega
   rw [e2] at C;have:=bd r (j % k) u C;rw [<- this]
   congr 1
   omega
  ·intro u N;obtain ⟨cs,g,N⟩:=List.mem_flatten.1 N;obtain ⟨d,q,rfl⟩:=ng.1 g;exact D d q u N
  ·rw [<- e1];exact hI
end
end
section
open Go Go.RowKit
section
variable {P:Program} {w w0:World} {X:List Nat} {L:List Item} {S:ag} {K:Value->World->Prop}
attribute [local irreducible] Run CondV aC aU
end
end
section
open Go Go.RowKit
attribute [local irreducible] Run CondV aC aU
end
section
open Go Go.RowKit
attribute [local irreducible] Run CondV aC aU
end
section
open Go Go.RowKit
section
attribute [local irreducible] Run CondV aC aU
end
end
section
open Go Go.RowKit
theorem Inv.pubExt {w0 w:World} {X:List Nat} {A:List Item} {S:ag} {L:bu} (h:Inv w0 X (A++bG L) S w) :
  ∃ S',Inv w0 X A S' w/\Ext w0.heap.size X S S'/\Ins S' L:=by
 obtain ⟨S',i,j,l,m⟩:=h.publishAll L;refine ⟨S',i,⟨j,fun b o g=>?_⟩,l⟩;rcases m b o g with a|a
 ·exact .inl a
 ·right;exact h.new b (by rw [cB]; exact iW _ a)
theorem Inv.pub1 {w0 w:World} {X:List Nat} {A:List Item} {S:ag} {b:Nat} {o:Obj} (h:Inv w0 X (A++[.blk b o]) S w) :
  ∃ S',Inv w0 X A S' w/\Ext w0.heap.size X S S'/\S' b=some o:=by
 obtain ⟨S',a,g,i⟩:=Inv.pubExt (A:=A) (L:=[(b,o)]) h;exact ⟨S',a,g,i _ (cO.2 rfl)⟩
theorem Rows.monoR {α:Type} {k:Nat} {R R':List Value->α->Prop} {css:List (List Value)} {ys:List α} (h:Rows k R css ys) (hR:∀ cs y,R cs y->R' cs y):Rows k R' css ys:=⟨h.hc,h.hk,fun i a g=>hR _ _ (h.hR i a g)⟩
theorem Rows.one {α:Type} {k:Nat} {R:List Value->α->Prop} {cs:List Value} {y:α} (hR:R cs y) (a:cs.length=k):Rows k R [cs] [y]:=by
 have:=(Rows.nil k R).snoc hR a;exact this
section
variable {P:Program} {w w0:World} {X:List Nat} {L:List Item} {S:ag} {K:Value->World->Prop}
theorem Run.call0E {f:FuncId} {fn:Func} {args:List Value} {Post:Value->List Item->ag->Prop}
  (hf:P.funcs[f]?=some fn) (hn:(fn.name == "runtime.NumGoroutine" || fn.body.isNone)=false) (h:Inv w0 X L S w) (hc:Tri P f args [] S Post)
  (hk:∀ v I' S' w',Post v I' S'->Ext w0.heap.size X S S'->Inv w0 X (L++I') S' w'->K v w'):Run P (fa (.func (.func f) #[] #[]) args) w K:=by
 refine Run.callP hf hn ((hc w h.nil.begin).mono ?_);rintro e w' ⟨v,I',S',rfl,i,g,j⟩;refine hk v I' S' w' j ⟨g.1,fun b o l=>?_⟩ (Inv.step (A:=L) (B:=[]) (by simpa using h) i g.2);rcases g.2 b o l with a|a|a
 ·exact .inl a
 ·simp [bT] at a
 ·exact .inr (.inr (g9 h.size a))
end
theorem Ext.trans {n:Nat} {Y:List Nat} {S S' S'':ag} (h:Ext n Y S S') (g:Ext n Y S' S''):Ext n Y S S'':=by
 refine ⟨h.1.trans g.1,fun b o i=>?_⟩;rcases g.2 b o i with a|a
 ·exact h.2 b o a
 ·exact .inr a
section
variable {P:Program} {w w0:World} {X:List Nat} {A I:List Item} {S:ag} {K:Value->World->Prop}
theorem Of {f:FuncId} {args:List Value} {Post:Value->List Item->ag->Prop} (h:Inv w0 X (A++I) S w) (hc:Tri P f args I S Post) :
  Calls P f args.toArray w fun e w'=>∃ v I' S',e=.returned v/\Inv w0 X (A++I') S' w'/\Ext w0.heap.size X S S'/\Post v I' S':=by
 refine (hc w (h.sub (dU A I)).begin).mono ?_;rintro e w' ⟨v,I',S',rfl,i,g,j⟩;refine ⟨v,I',S',rfl,Inv.step h i g.2,⟨g.1,fun b o l=>?_⟩,j⟩;rcases g.2 b o l with a|a|a
 ·exact .inl a
 ·exact .inr (h.new b (by rw [cB]; exact iW _ a))
 ·exact .inr (.inr (g9 h.size a))
theorem Run.callE {f:FuncId} {fn:Func} {args:List Value} {Post:Value->List Item->ag->Prop}
  (hf:P.funcs[f]?=some fn) (hn:(fn.name == "runtime.NumGoroutine" || fn.body.isNone)=false) (h:Inv w0 X (A++I) S w) (hc:Tri P f args I S Post)
  (hk:∀ v I' S' w',Post v I' S'->Ext w0.heap.size X S S'->Inv w0 X (A++I') S' w'->K v w'):Run P (fa (.func (.func f) #[] #[]) args) w K:=by
 refine Run.callP hf hn ((Of h hc).mono ?_);rintro e w' ⟨v,I',S',rfl,a,g,i⟩;exact hk v I' S' w' i g a
theorem Run.callVE {f:FuncId} {fn:Func} {cap args:List Value} {Post:Value->List Item->ag->Prop}
  (hf:P.funcs[f]?=some fn) (hn:(fn.name == "runtime.NumGoroutine" || fn.body.isNone)=false) (h:Inv w0 X (A++I) S w) (hc:Tri P f (args++cap) I S Post)
  (hk:∀ v I' S' w',Post v I' S'->Ext w0.heap.size X S S'->Inv w0 X (A++I') S' w'->K v w'):Run P (fa (fv f cap) args) w K:=by
 unfold Run;rw [Dx hf hn];refine (Of h hc).mono ?_;rintro e w' ⟨v,I',S',rfl,a,g,i⟩;exact hk v I' S' w' i g a
end
theorem Inv.lendExt {w0 w:World} {X:List Nat} {A:List Item} {S:ag} {v:Value} {e:TypeId} {k:Nat} {css:List (List Value)} (h:Inv w0 X (A++[aB v e k css]) S w) :
  ∃ S',Ext w0.heap.size X S S'/\RowRd S' v e k css.length css.flatten/\Inv w0 X A S' w:=by
 obtain ⟨m,o⟩:=h.openRow;rcases o with ⟨rfl,t⟩|⟨g,cap,a,rfl,i,j,l,u,B⟩
 ·exact ⟨S,Ext.refl _ _ _,⟨m,.inl ⟨rfl,t⟩⟩,h.sub (gR _ _)⟩
 ·obtain ⟨S',p,q,r⟩:=Inv.pub1 (A:=A) B;exact ⟨S',q,⟨m,.inr ⟨g,cap,a,rfl,r,i,j,l,u⟩⟩,p⟩
end
section
open Go Go.RowKit
section
variable {w:World} {K:Value->World->Prop}
attribute [local irreducible] Run
theorem z7 (hk:K (.agg #[.int .i64 0,.int .i64 0,.string ⟨#[]⟩,.slice none 0 0,.slice none 0 0]) w):Run Tryz.prog (bR ai []) w K:=by
 refine Run.of (v:=.agg #[.int .i64 0,.int .i64 0,.string ⟨#[]⟩,.slice none 0 0,.slice none 0 0]) (w':=w) ?_ hk;unfold bR;rw [Sem.run_bind,run_build w ai _ #[.int .i64 0,.int .i64 0,.string ⟨#[]⟩,.slice none 0 0,.slice none 0 0] (by kernel_rfl),Result.andThen_ok];rfl
end
section
attribute [local irreducible] Run CondV aC aU
abbrev Q8 (c:C):Value->List Item->ag->Prop:=fun v I' S'=>I'=[]/\∃ cs,v=.agg cs.toArray/\RdC S' cs c
def QF (c:C):C:=if a9 c=true then sr (bP c) c else ⟨⟨0,0,⟨#[]⟩,[]⟩,[]⟩
theorem RdC.zero (S:ag):RdC S [.int .i64 0,.int .i64 0,.string ⟨#[]⟩,.slice none 0 0,.slice none 0 0] ⟨⟨0,0,⟨#[]⟩,[]⟩,[]⟩:=
 ⟨[.int .i64 0,.int .i64 0,.string ⟨#[]⟩,.slice none 0 0],.slice none 0 0,rfl,RdT.iff.2 ⟨_,rfl,by simp [inI,T.kind],by simp [inI,T.n],by rw [T.name]; decide +kernel,⟨none,0,rfl,be _,aK _,.inl rfl⟩⟩,⟨none,0,rfl,be _,aK _,.inl rfl⟩⟩
end
end
section
open Go Go.RowKit

section
variable {P:Program} {w w0:World} {X:List Nat} {L:List Item} {S:ag} {K:Value->World->Prop}
attribute [local irreducible] Run CondV aC aU
theorem Run.callVPure {f:FuncId} {fn:Func} {cap args:List Value} {r:Value} (hf:P.funcs[f]?=some fn) (hn:(fn.name == "runtime.NumGoroutine" || fn.body.isNone)=false) (h:Inv w0 X L S w) (hc:Pure P f (args++cap) S r)
  (hk:∀ w',Inv w0 X L S w'->K r w'):Run P (fa (fv f cap) args) w K:=by
 refine Run.callV (A:=L) (I:=[]) hf hn (by simpa using h) (Post:=fun v I' S'=>v=r/\I'=[]/\S'=S) ?_ fun v' I' S' w'=>?_
 ·intro g a;exact (hc g a).mono fun e w' ⟨i,a⟩=>⟨_,_,_,i,a,Ext.refl _ _ _,rfl,rfl,rfl⟩
 ·rintro ⟨rfl,rfl,rfl⟩ _ a;exact hk _ (by simpa using a)
end
section
attribute [local irreducible] Run CondV aC aU
end
end
section
open Go Go.RowKit
section
variable {P:Program} {w:World} {K:Value->World->Prop}
attribute [local irreducible] Run
theorem Ox {T ty e:TypeId} {k h m len cap:Nat} {a:Option Addr} (g:cY P T=some (e,k)) (j:h<=m) (l:m<=cap) (hk:K (.slice (if m=0 then a else a.map (·.add (0 * k))) h m) w) :
  Run P (sOp (.slice T (.const (.slice a len cap)) none (some (.const (.int .i64 h))) (some (.const (.int .i64 m)))) ty) w K:=by
 obtain ⟨o,i,p,q⟩:=kl g;refine Run.of ?_ hk;simp [sOp,execOp,ev0,evE,Instr.sliceAt,Instr.slice,Instr.sliceBounds,run_underlying o,ij j,ij l,sizeOf,typeInfo,p]
end
section
attribute [local irreducible] Run CondV aC aU
theorem JA {α:Type} {R:List Value->α->Prop} {S:ag} {v:Value} {xs:List α} (h:RdSl S 4 R v xs):∃ r,RdSl S 4 R r xs/\Pure Tryz.prog C8 [v] S r:=by
 obtain ⟨a,cap,rfl,i,hc,j⟩:=id h;have l:∀ m:Nat,(if m=0 then a else a.map (·.add (0 * 4)))=a:=by
  intro m;split
  ·rfl
  ·cases a <;> simp [Addr.add]
 refine ⟨.slice a xs.length xs.length,⟨a,xs.length,rfl,be _,by omega,j⟩,fun w g=>?_⟩;refine qm.2 ?_;dsimp only[qm,aQ];refine aG h ao ?_;refine aG h ao ?_;refine Ox ao (be _) i ?_;rw [l];exact done g rfl
theorem pP (n:Int) (S:ag):Pure Tryz.prog FS [.int .i64 n] S (.agg #[.int .i64 1,.int .i64 n,.string ⟨#[]⟩,.slice none 0 0]):=by
 intro w a;refine rt.2 ?_;dsimp only[rt,aQ];refine aH a aM fun h w' a=>?_;have g:∀ {K:Value->World->Prop} {w':World},K (.agg #[.int .i64 1,.int .i64 n,.string ⟨#[]⟩,.slice none 0 0]) w'->Run Tryz.prog (bR ac [(0,.int .i64 1),(1,.int .i64 n)]) w' K:=by
  intro K w' hk;refine Run.of (v:=.agg #[.int .i64 1,.int .i64 n,.string ⟨#[]⟩,.slice none 0 0]) (w':=w') ?_ hk;unfold bR;rw [Sem.run_bind,run_build w' ac _ #[.int .i64 1,.int .i64 n,.string ⟨#[]⟩,.slice none 0 0] (by kernel_rfl),Result.andThen_ok];rfl
 refine g ?_;refine al a 0 rfl ad rfl rfl (by simp [Value.oneCell']) fun w' a=>?_;refine bp a 0 ad rfl rfl ?_;exact done a rfl
theorem sO {vs:List Int} {S:ag} {g:Nat} {h:Value} {E:TypeId} (n:Int) (i:S g=some (.cells #[h] E)) (j:RdSl S 1 jG h vs) :
  Pure Tryz.prog gD [.int .i64 n,.pointer (some ⟨g,0,none⟩)] S (.agg #[.int .i64 1,.int .i64 (mw vs n),.string ⟨#[]⟩,.slice none 0 0]):=by
 intro w a;refine lC.2 ?_;dsimp only[lC,bm];refine aH a aM fun l w' a=>?_;refine dE fG (by rw [a.cellS i]; rfl) ?_;refine Run.callPure qo pK a (oj n j) fun w' a=>?_;refine Run.callPure rG rX a (pP _ S) fun w' a=>?_;refine al a 0 rfl ad rfl rfl (by simp [Value.oneCell']) fun w' a=>?_;refine bp a 0 ad rfl rfl ?_;exact done a rfl
theorem CE (vs:List Int) (b5:vs.length<=1000000000):∀ (t:T) (S:ag) (cs:List Value) (g:Nat) (vv:Value) (E:TypeId),RdT S cs t->S g=some (.cells #[vv] E)->RdSl S 1 jG vv vs->wT t<=1048576->
  Tri Tryz.prog xP [.agg cs.toArray,fv gD [.pointer (some ⟨g,0,none⟩)]] [] S (D2 S (lS vs t)):=by
 refine T.ind fun k n s ks a5 S cs g vv E h hS hv hw=>?_;have ih:∀ t∈ks,∀ (S:ag) (cs:List Value),RdT S cs t->S g=some (.cells #[vv] E)->RdSl S 1 jG vv vs->wT t<=1048576->
  Tri Tryz.prog xP [.agg cs.toArray,fv gD [.pointer (some ⟨g,0,none⟩)]] [] S (D2 S (lS vs t)):=fun t ht S cs h1 h2 h3 h4=>a5 t ht S cs g vv E h1 h2 h3 h4
 clear a5;intro w a;obtain ⟨kv,rfl,h1,h2,hs,a2⟩:=RdT.iff.1 h;simp only [T.name,T.kids,T.kind,T.n] at h1 h2 hs a2 ⊢;simp only [wT] at hw;have b9:=OZ vs n;refine uD.2 ?_;dsimp only[uD,bm];refine bH a fun G w' a=>?_;refine aH a aM fun b4 w' a=>?_;refine ah a 0 rfl bb aw rfl ?_;refine bn ?_;rw [lS];refine aS (fun a1=>?_) (fun a1=>?_)
 ·rw [af a1];refine ah a 0 rfl aV aw rfl ?_;refine Run.callVPure tO uZ a (sO n hS hv) fun w' a=>?_;refine al a 1 rfl ad rfl rfl (by simp [Value.oneCell']) fun w' a=>?_;refine bp a 1 ad rfl rfl ?_;exact ⟨_,_,_,rfl,a.pick [false,false],Ext.refl _ _ _,rfl,[_,_,_,_],[],rfl,rfl,TrT.iff.2 ⟨_,rfl,by simp [inI,T.kind],by simp only [inI,T.n]; omega,by rw [T.name]; decide +kernel,TrSl.nil (by simp [maxLen])⟩⟩
 rw [ae a1];refine ah a 0 rfl ay ax rfl ?_;refine dG a 0 rfl ay ax rfl rfl rfl fun w' a=>?_;refine aG a2 ao ?_;have a:Inv w [] [.blk b4 (.cells #[.int .i64 0,.int .i64 0,.string ⟨#[]⟩,.slice none 0 0] ac),.blk G (.cells #[.int .i64 k,.int .i64 n,.string s,.slice none 0 0] ac)] S w':=a.perm (List.Perm.swap _ _ _);have a:=a.rowNil ac 4;refine ⟨fun i w'=>∃ (j:Nat) (p:Value) (Ls:List bu) (css:List (List Value)),j<=ks.length/\i=.int .i64 j/\Grown 4 TrT Ls css (gV vs (ks.take j))/\
   Inv w [] (.blk b4 (.cells #[.int .i64 0,.int .i64 0,.string ⟨#[]⟩,.slice none 0 0] ac)::.blk G (.cells #[.int .i64 k,.int .i64 n,.string s,p] ac)::aB p ac 4 css::bG Ls.flatten) S w',
  fun i _=>ks.length - (intOf i).toNat,⟨0,_,[],[],aK _,rfl,Grown.nil _ _,a⟩,?_⟩
 intro b6 _ _ _ _ _ _ _ _ _ _ _ _ _ w';rintro ⟨j,p,Ls,css,hj,rfl,hg,a⟩;refine cu ?_;refine aS (fun a9=>?_) (fun a9=>?_)
 ·have a0:j<ks.length:=by omega
  have c1:(ks.take j).length=j:=by simp; omega
  have b1:=hg.hc;rw [qA] at b1;have hm:=cH a0;have c2:=qk hm;refine dy a a2 ao ad a0 (fun _ _=>RdT.length) fun J O=>?_;refine aH a aM fun b7 w' a=>?_;have a:=a.perm (M:=.blk b7 _::(.blk b4 (.cells #[.int .i64 0,.int .i64 0,.string ⟨#[]⟩,.slice none 0 0] ac)::.blk G (.cells #[.int .i64 k,.int .i64 n,.string s,p] ac)::aB p ac 4 css::bG Ls.flatten)) (bK (l₁:=[_]));refine al a 0 rfl ad (by simpa using O.length) rfl (by simpa using O.one) fun w' a=>?_;refine ⟨fun D yy N AV lo DL tq io pT w_=>Fx D 0 [pT=.pointer (some ⟨G,3,none⟩),io=p,tq=.agg J.toArray,DL=fv gD [.pointer (some ⟨g,0,none⟩)],True,True,True,yy=.pointer (some ⟨G,3,none⟩),True]/\∃ M l C,(D 4=true->lo=.agg l.toArray/\TrT M l (lS vs ks[j]))/\(D 5=true->AV=.slice (some ⟨C,0,none⟩) 1 1)/\(D 5=true->D 4=true)/\(D 6=true->D 5=true)/\(D 8=true->D 6=true)/\(D 8=true->D 1=true)/\Inv w [] (bz (.blk b7 (.cells J.toArray ac)) (.blk b4 (.cells #[.int .i64 0,.int .i64 0,.string ⟨#[]⟩,.slice none 0 0] ac)) (.blk G (.cells #[.int .i64 k,.int .i64 n,.string s,p] ac)) (.blk G (.cells #[.int .i64 k,.int .i64 n,.string s,N] ac)) (aB p ac 4 css) (aB N ac 4 (css++[l])) (bG Ls.flatten) M (.blk C (.cells l.toArray ac)) (D 4) (D 5) (D 6) (D 8)) S w_,⟨Fx.nil _ _,⟨[],[],0,aY,aY,aY,aY,aY,aY,by simpa [bz,bG] using a.draw⟩⟩,⟨?_,?_,?_,?_,?_,?_,?_,?_,?_,trivial⟩,?_⟩;all_goals (intro D Y; intros; rename_i yy N AV lo DL tq io pT w_ a4; have r:=a4.1; obtain ⟨⟨cG,cf,cD,cF,bQ,cE,bZ,cL,dw,_⟩,⟨M,l,C,U,e8,k8,V,q,k1,a⟩⟩:=a4)
  ·refine au ay ?_;exact ⟨r.set 0 rfl,⟨M,l,C,U,e8,k8,V,q,k1,a⟩⟩
  ·obtain rfl:=cG ‹_›;have B:D 8=false:=cS.2 fun h=>by rw [k1 h] at Y; cases Y
   refine aD (b:=G) a 2 (c:=(#[.int .i64 k,.int .i64 n,.string s,p])) ax (by rw [B]; rfl) rfl ?_;have k1:=fun (_:aE D 1 8=true)=>(rfl:aE D 1 1=true)
   exact ⟨r.set 1 rfl,⟨M,l,C,U,e8,k8,V,q,k1,a⟩⟩
  ·refine aq a 0 ad rfl (by simpa using O.length) ?_;exact ⟨r.set 2 rfl,⟨M,l,C,U,e8,k8,V,q,k1,a⟩⟩
  ·exact ⟨r.set 3 rfl,⟨M,l,C,U,e8,k8,V,q,k1,a⟩⟩
  ·obtain rfl:=cD ‹_›;obtain rfl:=cF ‹_›;have f8:D 5=false:=cS.2 fun h=>by rw [k8 h] at Y; cases Y
   have f9:D 6=false:=cS.2 fun h=>by rw [V h] at f8; cases f8
   have B:D 8=false:=cS.2 fun h=>by rw [q h] at f9; cases f9
   rw [Y,f8,f9,B] at a;refine Run.call0 u9 uB a (ih _ (cH a0) S J O hS hv (by omega)) fun v' I' S w_=>?_;rintro ⟨rfl,l,M,rfl,rfl,Z⟩ _ a;have U:aE D 4 4=true->Value.agg l.toArray=Value.agg l.toArray/\TrT M l (lS vs ks[j]):=fun _=>⟨rfl,Z⟩
   have k8:=fun (_:aE D 4 5=true)=>(rfl:aE D 4 4=true)
   have a:Inv w [] (bz (.blk b7 (.cells J.toArray ac)) (.blk b4 (.cells #[.int .i64 0,.int .i64 0,.string ⟨#[]⟩,.slice none 0 0] ac)) (.blk G (.cells #[.int .i64 k,.int .i64 n,.string s,p] ac)) (.blk G (.cells #[.int .i64 k,.int .i64 n,.string s,N] ac)) (aB p ac 4 css) (aB N ac 4 (css++[l])) (bG Ls.flatten) M (.blk C (.cells l.toArray ac)) true (D 5) (D 6) (D 8)) S w_:=by
    rw [f8,f9,B];simpa [bz] using a
   exact ⟨r.set 4 (by first|assumption|trivial),⟨M,l,C,U,e8,k8,V,q,k1,a⟩⟩
  ·have GE:=bQ ‹_›;have f9:D 6=false:=cS.2 fun h=>by rw [V h] at Y; cases Y
   have B:D 8=false:=cS.2 fun h=>by rw [q h] at f9; cases f9
   obtain ⟨q7,Z⟩:=U ‹D 4=true›;subst q7;rw [‹D 4=true›,Y,f9,B] at a;refine eQ a bA (by simp [Value.cells,Z.length]) (by omega) (by omega) fun C w_ a=>?_;have U:aE D 5 4=true->Value.agg l.toArray=Value.agg l.toArray/\TrT M l (lS vs ks[j]):=fun _=>⟨rfl,Z⟩
   have e8:=fun (_:aE D 5 5=true)=>(rfl:Value.slice (some ⟨C,0,none⟩) 1 1=_)
   have k8:=fun (_:aE D 5 5=true)=>‹D 4=true›;have V:=fun (_:aE D 5 6=true)=>(rfl:aE D 5 5=true)
   have a:Inv w [] (bz (.blk b7 (.cells J.toArray ac)) (.blk b4 (.cells #[.int .i64 0,.int .i64 0,.string ⟨#[]⟩,.slice none 0 0] ac)) (.blk G (.cells #[.int .i64 k,.int .i64 n,.string s,p] ac)) (.blk G (.cells #[.int .i64 k,.int .i64 n,.string s,N] ac)) (aB p ac 4 css) (aB N ac 4 (css++[l])) (bG Ls.flatten) M (.blk C (.cells l.toArray ac)) (D 4) true (D 6) (D 8)) S w_:=by
    rw [‹D 4=true›,f9,B];simpa [bz,Value.cells] using a
   exact ⟨r.set 5 (by first|assumption|trivial),⟨M,l,C,U,e8,k8,V,q,k1,a⟩⟩
  ·obtain rfl:=cf ‹_›;have Gv:=cE ‹_›;have B:D 8=false:=cS.2 fun h=>by rw [q h] at Y; cases Y
   have q8:=e8 ‹D 5=true›;subst q8;obtain ⟨_,Z⟩:=U ‹D 4=true›;rw [‹D 4=true›,‹D 5=true›,Y,B] at a;have a6:((bz (.blk b7 (.cells J.toArray ac)) (.blk b4 (.cells #[.int .i64 0,.int .i64 0,.string ⟨#[]⟩,.slice none 0 0] ac)) (.blk G (.cells #[.int .i64 k,.int .i64 n,.string s,io] ac)) (.blk G (.cells #[.int .i64 k,.int .i64 n,.string s,N] ac)) (aB io ac 4 css) (aB N ac 4 (css++[l])) (bG Ls.flatten) M (.blk C (.cells l.toArray ac)) true true false false))[4+(bG Ls.flatten).length+(bG M).length]?=some (.blk C (.cells l.toArray ac)):=by
    have e4:4+(bG Ls.flatten).length+(bG M).length=((bG Ls.flatten).length+(bG M).length)+1+1+1+1:=by omega
    rw [e4];simp only [bz,lY];rw [kV (by omega),sP,kV (be _),fg]; rfl
   refine eU a 3 l bA (by omega) rfl (by rw [Z.length]) (m:=1) (o:=0) ?_ Z.one (by omega) (by omega) fun v' w_ a=>?_
   ·intro i u hi;rw [a.cellL a6,df];simpa using hi
   rw [fq] at a;have V:=fun (_:aE D 6 6=true)=>‹D 5=true›;have q:=fun (_:aE D 6 8=true)=>(rfl:aE D 6 6=true)
   have a:Inv w [] (bz (.blk b7 (.cells J.toArray ac)) (.blk b4 (.cells #[.int .i64 0,.int .i64 0,.string ⟨#[]⟩,.slice none 0 0] ac)) (.blk G (.cells #[.int .i64 k,.int .i64 n,.string s,io] ac)) (.blk G (.cells #[.int .i64 k,.int .i64 n,.string s,v'] ac)) (aB io ac 4 css) (aB v' ac 4 (css++[l])) (bG Ls.flatten) M (.blk C (.cells l.toArray ac)) (D 4) (D 5) true (D 8)) S w_:=by
    rw [‹D 4=true›,‹D 5=true›,B];exact a
   exact ⟨r.set 6 (by first|assumption|trivial),⟨M,l,C,U,e8,k8,V,q,k1,a⟩⟩
  ·refine au ay ?_;exact ⟨r.set 7 rfl,⟨M,l,C,U,e8,k8,V,q,k1,a⟩⟩
  ·obtain rfl:=cL ‹_›;have BB:=bZ ‹_›;rw [‹D 4=true›,‹D 5=true›,‹D 6=true›,Y] at a;obtain ⟨va,vn,vc,a3⟩:=Inv.rowSlice a 3 rfl;refine ef a 2 (n:=1) (by rw [a3]; rfl) (by decide +kernel) rfl (by simp) (by rw [a3]; simp [Value.cells,Value.oneCell']) fun w_ a=>?_;have a7:Value.cells N=#[N]:=by rw [a3]; rfl
   rw [a7] at a;have k1:=fun (_:aE D 8 8=true)=>‹D 1=true›;have q:=fun (_:aE D 8 8=true)=>‹D 6=true›;have a:Inv w [] (bz (.blk b7 (.cells J.toArray ac)) (.blk b4 (.cells #[.int .i64 0,.int .i64 0,.string ⟨#[]⟩,.slice none 0 0] ac)) (.blk G (.cells #[.int .i64 k,.int .i64 n,.string s,p] ac)) (.blk G (.cells #[.int .i64 k,.int .i64 n,.string s,N] ac)) (aB p ac 4 css) (aB N ac 4 (css++[l])) (bG Ls.flatten) M (.blk C (.cells l.toArray ac)) (D 4) (D 5) (D 6) true) S w_:=by
    rw [‹D 4=true›,‹D 5=true›,‹D 6=true›];exact a
   exact ⟨r.set 8 trivial,⟨M,l,C,U,e8,k8,V,q,k1,a⟩⟩
  obtain ⟨rfl,rfl,rfl,rfl,GE,Gv,BB,rfl,_,_⟩:=r.all;have Uq:D 4=true:=by assumption
  have Q7:D 5=true:=by assumption
  have NE:D 6=true:=by assumption
  have Lh:D 8=true:=by assumption
  clear r cG cf cD cF bQ cE bZ cL dw;obtain ⟨_,Z⟩:=U Uq;rw [Uq,Q7,NE,Lh] at a;refine bF (by omega) ?_;refine ⟨⟨j+1,N,Ls++[M],css++[l],a0,rfl,?_,?_⟩,by simp [intOf]; omega⟩
  ·rw [z3 vs ks j a0];exact hg.snoc Z Z.length
  ·simp only [BP,iX,s4,dc,eK];refine a.sub ?_;simp only [bz];rw [<- cN];exact ((((gR _ _).cons_cons _).cons_cons _).cons_cons _).cons _
 ·have:j=ks.length:=by omega
  subst this;rw [iz] at hg;obtain ⟨va,vn,vc,b0⟩:=a.rowSlice 2 rfl;have b3:p.oneCell'=true:=by rw [b0]; rfl
  refine aq a 1 ad rfl rfl ?_;refine al a 0 rfl ad rfl rfl ?_ fun w' a=>?_
  ·intro u hu;have a8:u∈([.int .i64 k,.int .i64 n,.string s,p]:List Value):=hu;simp at a8;rcases a8 with rfl|rfl|rfl|rfl <;> first|rfl|exact b3
  refine bp a 0 ad rfl rfl ?_;have a:Inv w [] ([]++(aB p ac 4 css::bG Ls.flatten)) S w':=a.sub (dU [_,_] _);obtain ⟨L,Z,a⟩:=Inv.rowTree a hg;exact ⟨_,_,_,rfl,a,Ext.refl _ _ _,rfl,_,L,rfl,rfl,TrT.iff.2 ⟨p,rfl,h1,h2,hs,Z⟩⟩
theorem mN {ts:List T} {S:ag} {v:Value} (h:RdSl S 4 (RdT S) v ts) (hw:ts.length+wL ts<=1048577):Tri Tryz.prog AS [v] [] S (Ob 4 TrT S (gV (dk ts []) ts)):=by
 intro w a;have C:=h.le;simp only [maxLen] at C;have D:=Kt ts;have U:=Ai ts [];simp only [cq] at U;refine oA.2 ?_;dsimp only[oA,aQ];refine Run.call0 Ir Hn a (F2 h (by omega)) fun v1 I' S w'=>?_;rintro ⟨rfl,rfl⟩ _ a;have G:(dk ts []).length<=1000000000:=by omega
 generalize dk ts []=vs at a G ⊢;refine aH a P0 fun b3 w' a=>?_;have l:v1.cells=#[v1]/\v1.oneCell'=true:=by
  have:=a.its (cg v1 vs) (by simp);rcases this.2 with ⟨rfl,_⟩|⟨g,cap,a3,rfl,_⟩ <;> exact ⟨rfl,rfl⟩
 refine ef a 1 (n:=1) (by rw [l.1]; rfl) (by rw [fG]; rfl) rfl (Ce rfl) (by rw [l.1]; simpa using l.2) fun w' a=>?_;have V:bY (Value.slice none 0 0).cells 0 v1.cells.toList=#[v1]:=by
  rw [l.1]; rfl
 have a:Inv w [] [cg v1 vs,.blk b3 (.cells #[v1] pC)] S w':=by
  have:=a;simp only [dQ,rC] at this;rw [V] at this;exact this
 have a:=a.perm (M:=[.blk b3 (.cells #[v1] pC)]++[cg v1 vs]) (List.Perm.swap _ _ _);obtain ⟨S1,u,B,a,_⟩:=Inv.lend (A:=[_]) a;obtain ⟨a,j⟩:=Inv.publishLast (L:=[]) a;have hb:nl S1 b3 (.cells #[v1] pC) b3=some (.cells #[v1] pC):=by simp [nl]
 generalize nl S1 b3 (.cells #[v1] pC)=S2 at a j hb;have Y:=B.ints.mono j fun _ _ h=>h;have p:=u.trans j;have h:=h.mono p fun _ _ h=>h.mono p;refine aG h ao ?_;refine ⟨fun i t w'=>∃ (k:Nat) (Ls:List bu) (css:List (List Value)),k<=ts.length/\i=.int .i64 k/\Grown 4 TrT Ls css (gV vs (ts.take k))/\Inv w [] (aB t ac 4 css::bG Ls.flatten) S2 w',
  fun i _ _=>ts.length - (intOf i).toNat,⟨0,[],[],aK _,rfl,Grown.nil _ _,a.rowNil ac 4⟩,?_⟩
 intro a0 _ Z _ _ _ _ _ _ _ _ _ _ w';rintro ⟨k,Ls,css,hk,rfl,N,a⟩;refine cu ?_;refine aS (fun O=>?_) (fun O=>?_)
 ·have m:k<ts.length:=by omega
  have a1:(ts.take k).length=k:=by simp; omega
  have D:=N.hc;rw [qA] at D;have hm:=cH m;have a2:=qk hm;refine dy a h ao ad m (fun _ _=>RdT.length) fun cs o=>?_;have J:=o.length;refine aH a aM fun b6 w' a=>?_;have a:=a.perm (M:=.blk b6 _::(aB Z ac 4 css::bG Ls.flatten)) (bK (l₁:=[_]));refine al a 0 rfl ad (by simpa using J) rfl (by simpa using o.one) fun w' a=>?_;refine aq a 0 ad rfl (by simpa using J) ?_;have a:Inv w [] (aB Z ac 4 css::bG Ls.flatten) S2 w':=a.sub (gS _ _);refine r8 ?_;refine Run.call0 u9 uB a (CE vs G _ S2 cs b3 v1 pC o hb Y (by omega)) fun v' I' S' w'=>?_;rintro ⟨rfl,r,L,rfl,rfl,q⟩ _ a;refine dC a 0 r bA (by omega) (by omega) rfl q.length q.one (by omega) (by omega) fun v' w' a=>?_;refine bF (by omega) ?_;refine ⟨⟨k+1,Ls++[L],css++[r],m,rfl,?_,?_⟩,by simp [intOf]; omega⟩
  ·rw [z3 vs ts k m];exact N.snoc q q.length
  ·simp only [BP,iX,s4,dc,eK];exact a
 ·have:k=ts.length:=by omega
  subst this;rw [iz] at N;obtain ⟨L,q,a⟩:=Inv.rowTree (A:=[]) a N;exact ⟨_,_,_,rfl,a.less p,Ext.refl _ _ _,rfl,_,rfl,q⟩
end
end
section
open Go Go.RowKit
mutual
theorem LV (vs:List Int):∀ t:T,wT (el vs t)=wT t
 | .mk k n s ks=>by rw [el,wT,wT,wb,Ga vs ks]
theorem Ga (vs:List Int):∀ ts:List T,wL (gp vs ts)=wL ts
 | []=>rfl
 | t::ts=>by rw [gp,wL,wL,LV vs t,Ga vs ts]
end
theorem RV (vs:List Int) (c:C):wC (sr vs c)=wC c:=by
 simp only [wC,sr,LV,Ga,wb]
section
attribute [local irreducible] Run CondV aC aU
theorem Hk {c:C} {S:ag} {cs:List Value} (h:RdC S cs c) (O:dk (c.head::c.body) []=bP c/\lS (bP c) c.head=el (bP c) c.head/\gV (bP c) c.body=gp (bP c) c.body) (hw:wC c<=1048576) :
  Tri Tryz.prog tK [.agg cs.toArray] [] S (Q8 (sr (bP c) c)):=by
 intro w g;obtain ⟨e1,e2,e3⟩:=O;obtain ⟨hd,ks,rfl,h1,h2⟩:=h;have Y:=h1;obtain ⟨kv,rfl,g1,g2,g3,g4⟩:=RdT.iff.1 h1;have Z:=h2.le;simp only [maxLen] at Z;unfold wC at hw;refine rE.2 ?_;dsimp only[rE,aQ];refine bH g fun b1 w' g=>?_;refine aH g dn fun b2 w' g=>?_;refine au cC ?_;refine fo g 0 [.int .i64 c.head.kind,.int .i64 c.head.n,.string c.head.name,kv] ad rfl rfl Kl ?_;refine eQ g bA (by simp [Value.cells]) (by omega) (by omega) fun b7 w' g=>?_;refine ah g 0 rfl bC ax rfl ?_;have g:=Inv.closeRow (A:=[_,_]) (cap:=1) (k:=4) (n:=1) g (by omega) (by simp [maxLen]) (by simp [Value.cells]);refine hK g 2 (css:=[[.int .i64 c.head.kind,.int .i64 c.head.n,.string c.head.name,kv]]) bA (by omega) rfl h2 (fun _ _=>RdT.length) (fun _ _=>RdT.one) (by simp; omega) (by omega) fun v' w' a4 hR g=>?_;have hR:=(Rows.one Y Y.length).append hR;obtain ⟨S1,N,a0,g,_⟩:=Inv.lend (A:=[_,_]) g;have a2:RdSl S1 4 (RdT S1) v' (c.head::c.body):=(RowRd.rows hR a0).mono (Sle.refl _) fun _ _ h=>h.mono N;refine Run.call0 om n8 g (mN a2 (by simp only [wL,aO]; omega)) fun a6 I' S' w'=>?_;rintro ⟨rfl,M,rfl,hT⟩ _ g;obtain ⟨S2,g,hE,V⟩:=(g.less N).pubExt;have hr:=hT.rd V fun _ _ _ hi h=>h.rd hi;rw [e1,gV,e2,e3] at hr;have a3:=fun (v:Value) (h:RdSl S2 4 (RdT S2) v ((el (bP c) c.head::gp (bP c) c.body).drop 1))=>h;obtain ⟨b,o,cap,cc,E,fz,rfl,hS,J⟩:=hr.at_ (i:=0) (by simp);rw [oC] at J;obtain ⟨q,ec,f1,f2,f3,f4⟩:=RdT.iff.1 J;rw [ec] at J;obtain ⟨ka,kn,kc,a1⟩:∃ a n m,q=.slice a n m:=by
  obtain ⟨a,m,e,_⟩:=f4;exact ⟨_,_,_,e⟩
 refine ⟨fun D nr sY HL Ol LI Cq np w_=>Fx D 0 [np=.slice (some ⟨b,o,none⟩) ((gp (bP c) c.body).length+1) cap,Cq=.pointer (some ⟨b,o+0 * 4,none⟩),LI=.agg #[.int .i64 (el (bP c) c.head).kind,.int .i64 (el (bP c) c.head).n,.string (el (bP c) c.head).name,q],Ol=.slice (some ⟨b,o,none⟩) ((gp (bP c) c.body).length+1) cap,RdSl S2 4 (RdT S2) HL (gp (bP c) c.body),RdSl S2 4 (RdT S2) sY (gp (bP c) c.body),∃ t,nr=.agg #[.int .i64 (el (bP c) c.head).kind,.int .i64 (el (bP c) c.head).n,.string (el (bP c) c.head).name,q,t]/\RdSl S2 4 (RdT S2) t (gp (bP c) c.body),True]/\∃ B2,B2.size=5/\(D 7=true->∃ t,B2=#[.int .i64 (el (bP c) c.head).kind,.int .i64 (el (bP c) c.head).n,.string (el (bP c) c.head).name,q,t]/\RdSl S2 4 (RdT S2) t (gp (bP c) c.body))/\Inv w [] [.blk b1 (.cells #[.int .i64 c.head.kind,.int .i64 c.head.n,.string c.head.name,kv,ks] ai),.blk b2 (.cells B2 ai)] S2 w_,⟨Fx.nil _ _,⟨_,rfl,aY,g.draw⟩⟩,⟨?_,?_,?_,?_,?_,?_,?_,?_,trivial⟩,?_⟩;all_goals (intro D bw; intros; rename_i nr sY HL Ol LI Cq np w_ U; have p:=U.1; obtain ⟨⟨cG,cf,cD,cF,bQ,cE,bZ,cL,_⟩,⟨B2,B,G,g⟩⟩:=U)
 ·exact ⟨p.set 0 rfl,⟨B2,B,G,g⟩⟩
 ·obtain rfl:=cG ‹_›;refine aT (i:=0) ao (by simp) ?_;exact ⟨p.set 1 rfl,⟨B2,B,G,g⟩⟩
 ·obtain rfl:=cf ‹_›;refine dX (cs:=[.int .i64 (el (bP c) c.head).kind,.int .i64 (el (bP c) c.head).n,.string (el (bP c) c.head).name,q]) ad rfl (fun j v hj=>by rw [g.cellS hS]; exact bd ec j v hj) ?_;exact ⟨p.set 2 rfl,⟨B2,B,G,g⟩⟩
 ·exact ⟨p.set 3 rfl,⟨B2,B,G,g⟩⟩
 ·obtain rfl:=cF ‹_›;refine ql (l:=1) ao hr (by simp) fun t u=>?_;rw [List.drop_succ_cons,dT] at u;exact ⟨p.set 4 (by first|assumption|trivial),⟨B2,B,G,g⟩⟩
 ·have GE:=bQ ‹_›;obtain ⟨r,a7,hp⟩:=JA GE;refine Run.callPure AA Af g hp fun w_ g=>?_;exact ⟨p.set 5 (by first|assumption|trivial),⟨B2,B,G,g⟩⟩
 ·obtain rfl:=cD ‹_›;have Gv:=cE ‹_›;refine md ?_ ?_
  ·obtain ⟨a,m,e,_⟩:=Gv;exact ⟨_,_,_,e⟩
  have a5:∃ t,Value.agg #[.int .i64 (el (bP c) c.head).kind,.int .i64 (el (bP c) c.head).n,.string (el (bP c) c.head).name,q,sY]=.agg #[.int .i64 (el (bP c) c.head).kind,.int .i64 (el (bP c) c.head).n,.string (el (bP c) c.head).name,q,t]/\RdSl S2 4 (RdT S2) t (gp (bP c) c.body):=⟨_,rfl,Gv⟩
  exact ⟨p.set 6 (by first|assumption|trivial),⟨B2,B,G,g⟩⟩
 ·have BB:=bZ ‹_›;obtain ⟨t,rfl,u⟩:=BB;obtain ⟨a,m,e,_⟩:=id u;subst e;refine al g 1 rfl aN rfl B (by simp [Value.oneCell',a1]) fun w_ g=>?_;obtain ⟨B2,hq⟩:∃ B2,B2=(#[.int .i64 (el (bP c) c.head).kind,.int .i64 (el (bP c) c.head).n,.string (el (bP c) c.head).name,q,.slice a (gp (bP c) c.body).length m]:Array Value):=⟨_,rfl⟩
  rw [<- hq] at g;have B:B2.size=5:=by rw [hq]; rfl
  have G:=fun (_:aE D 7 7=true)=>(⟨_,hq,u⟩:∃ t,B2=#[.int .i64 (el (bP c) c.head).kind,.int .i64 (el (bP c) c.head).n,.string (el (bP c) c.head).name,q,t]/\RdSl S2 4 (RdT S2) t (gp (bP c) c.body))
  exact ⟨p.set 7 trivial,⟨B2,B,G,g⟩⟩
 obtain ⟨rfl,rfl,rfl,rfl,GE,Gv,BB,_,_⟩:=p.all;have sZ:D 7=true:=by assumption
 clear p cG cf cD cF bQ cE bZ cL;obtain ⟨t,rfl,u⟩:=G sZ;refine bp g 1 aN rfl rfl ?_;exact ⟨_,_,_,rfl,g.pick [false,false],hE,rfl,_,rfl,⟨_,_,rfl,J,u⟩⟩
theorem Aj {c:C} {S:ag} {cs:List Value} (h:RdC S cs c) (a:a9 c=true) (g:wC c<=1048576):Tri Tryz.prog tK [.agg cs.toArray] [] S (Q8 (sr (bP c) c)):=Hk h (FR a) g
abbrev NG (c:C) (ok:Bool):Value->List Item->ag->Prop:=fun v I' _=>∃ cs L,v=.tuple #[.agg cs.toArray,.bool ok]/\I'=bG L/\TrC L cs c
theorem TrC.zero:TrC [] [.int .i64 0,.int .i64 0,.string ⟨#[]⟩,.slice none 0 0,.slice none 0 0] ⟨⟨0,0,⟨#[]⟩,[]⟩,[]⟩:=
 ⟨[.int .i64 0,.int .i64 0,.string ⟨#[]⟩,.slice none 0 0],.slice none 0 0,[],[],rfl,rfl,TrT.iff.2 ⟨_,rfl,by simp [inI,T.kind],by simp [inI,T.n],by rw [T.name]; decide +kernel,TrSl.nil (by simp [maxLen])⟩,TrSl.nil (by simp [maxLen])⟩
theorem nG {c:C} {S:ag} {cs:List Value} (h:RdC S cs c) (m:wC c<=1048576):Tri Tryz.prog sG [.agg cs.toArray] [] S (NG (QF c) (a9 c)):=by
 intro w a;have o:=h;have g:=h.length;have r:=h.one;refine jX.2 ?_;dsimp only[jX,aQ];refine bH a fun u w' a=>?_;refine aH a dn fun B w' a=>?_;refine aq a 0 aN rfl (by simpa [Value.cells] using g) ?_;refine Run.callPure gE gx a (fO o) fun w' a=>?_;refine cU ?_;rw [QF];cases t:a9 c
 ·refine aI (fun _=>?_) (fun l=>by cases l);refine z7 ?_;refine al a 1 rfl aN rfl rfl (by simp [Value.oneCell']) fun w' a=>?_;refine bp a 1 aN rfl rfl ?_;exact ⟨_,_,_,rfl,a.pick [false,false],Ext.refl _ _ _,_,[],rfl,rfl,TrC.zero⟩
 refine aI (fun l=>by cases l) (fun _=>?_);refine aq a 0 aN rfl (by simpa [Value.cells] using g) ?_;refine Run.call0E C4 C9 a (Aj o t m) fun v I' S' w'=>?_;rintro ⟨rfl,p,rfl,hR⟩ q a;refine Run.call0 pq oW a (n5 hR (by rw [RV]; exact m)) fun v I' S2 w'=>?_;rintro ⟨rfl,j,L,rfl,rfl,i⟩ _ a;refine al a 1 rfl aN (by simpa using i.length) rfl (by simpa using i.one) fun w' a=>?_;refine bp a 1 aN rfl (by simpa using i.length) ?_;have a:Inv w [] (bG L) S2 w':=a.sub (dU [_,_] _);exact ⟨_,_,_,rfl,a,q,j,L,rfl,rfl,i⟩
end
end
end Go.Proofs.YtjbcdmheajljpaaGreat
