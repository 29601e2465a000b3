/- The variables of terms, on both sides: lists of numbers that grow. -/
import Derived.Test.YtellfcpffcipcaaGreatDoorZCkA
import Derived.Test.YtellfcpffcipcaaGreatDoorZCk1
import Derived.Test.YtellfcpffcipcaaGreatDoorRows
import Derived.ProofKit
import Derived.ReadAgain
import Derived.Carry
import Derived.Laws.BytesArg
import Derived.Laws.StructEq
import Derived.Laws.Tables
namespace Go.Proofs.YtellfcpffcipcaaGreatDoor
attribute [local irreducible] Run CondV aF aT
section
open Go Go.RowKit

mutual
def r4:T->List Int->List Int
 | .mk k n _ ks,l=>fm ks (if k=1 then nu l n else l)
def fm:List T->List Int->List Int
 | [],l=>l
 | t::ts,l=>fm ts (r4 t l)
end
mutual
def hY:T->List Int->List Int
 | .mk k n _ ks,l=>if k=1 then nu l n else ef ks l
def ef:List T->List Int->List Int
 | [],l=>l
 | t::ts,l=>ef ts (hY t l)
end
mutual
theorem IZ:∀ (t:T) (l:List Int),((r4 t l).length:Int)<=l.length+ez t
 | .mk k n s ks,l=>by
  rw [r4,show ez (T.mk k n s ks)=1+dx ks from rfl];have a:=Oj l n;have:=As ks (if k=1 then nu l n else l);split at this <;> rename_i hk <;> simp only [hk,if_true,if_false] at this ⊢ <;> omega
theorem As:∀ (ts:List T) (l:List Int),((fm ts l).length:Int)<=l.length+dx ts
 | [],l=>by simp [fm,dx]
 | t::ts,l=>by
  rw [fm,show dx (t::ts)=ez t+dx ts from rfl];have:=IZ t l;have:=As ts (r4 t l);omega
end
mutual
theorem rA:∀ (t:T) (l:List Int),((hY t l).length:Int)<=l.length+ez t
 | .mk k n s ks,l=>by
  rw [hY,show ez (T.mk k n s ks)=1+dx ks from rfl];have a:=Oj l n;have:=eK ks;split
  ·omega
  ·have:=MT ks l;omega
theorem MT:∀ (ts:List T) (l:List Int),((ef ts l).length:Int)<=l.length+dx ts
 | [],l=>by simp [ef,dx]
 | t::ts,l=>by
  rw [ef,show dx (t::ts)=ez t+dx ts from rfl];have:=rA t l;have:=MT ts (hY t l);omega
end
theorem uT {t:T} (h:dP t=true):ik t 30=true:=by
 rw [dP,aZ] at h;exact h.1
abbrev Fj (S:ae) (r:List Int):Value->List Item->ae->Prop:=fun v I' S'=>I'=[dI v r]/\S'=S

theorem nT:∀ (t:T) (S:ae) (cs:hZ) (v:Value) (l:List Int),RdT S cs t->l.length+ez t<=1000000000->kt Uy [v,.agg cs.toArray] [dI v l] S (Fj S (hY t l)):=by
 refine T.ind fun k n s q ih S cs v l h hl=>?_;intro w a;obtain ⟨kv,rfl,_,_,hs,N⟩:=RdT.iff.1 h;simp only [T.name,T.kids,T.kind,T.n] at hs N ⊢;have a2:=N.le;simp only [maxLen] at a2;rw [show ez (T.mk k n s q)=1+dx q from rfl] at hl;have b6:=eK q;have G:∀ {w':World} {U:Value} {b:Nat} {o:Obj} (r:List Int),Inv w (bS [dI v l]) [.blk b o,dI U r] S w'->r=hY (.mk k n s q) l->
   ∃ a3 I' S',Ending.returned U=.returned a3/\Inv w (bS [dI v l]) I' S' w'/\Ext w.heap.size (bS [dI v l]) S S'/\Fj S (hY (.mk k n s q) l) a3 I' S':=by
  intro w' U b o r h1 h2;subst h2;exact ⟨_,_,_,rfl,h1.pick [false,true],Ext.refl _ _ _,rfl,rfl⟩
 apply Ge.2;dsimp only[Ge,bl];refine bq a fun Y w' a=>?_;have a:=a.perm (M:=[ay Y #[ax k,ax n,.string s,kv] ab,dI v l]) (List.Perm.swap _ _ _);refine ad a 0 rfl aM aw rfl (bn (aJ (fun hk=>?_) (fun hk=>?_)))
 ·have hr:nu l n=hY (.mk k n s q) l:=by rw [hY,ai hk]
  obtain ⟨S1,b5,O,a,B⟩:=Inv.lend (A:=[_]) a;have O:=O.ints;refine ⟨fun i w'=>∃ j:Nat,j<=l.length/\i=ax j/\K5 (l.drop j) n=K5 l n/\Inv w (bS [dI v l]) [ay Y #[ax k,ax n,.string s,kv] ab] S1 w',
   fun i _=>l.length - (intOf i).toNat,⟨0,bf _,rfl,rfl,a⟩,?_⟩
  intro t5 _ _ _ _ a7 a8 a9 b0 b1 b2 b4 _ _ _ _ w';rintro ⟨j,hj,rfl,f,a⟩;refine aI O cU (bM (aJ (fun Z=>?_) (fun Z=>?_)))
  ·have g:j<l.length:=by omega
   have J:K5 (l.drop j) n=(decide (n=l[j]) || K5 (l.drop (j+1)) n):=So _ l j g;obtain ⟨b,o,cap,c,E,fz,rfl,hS,hR⟩:=O.at_ g;refine ⟨fun D tU qX nX pu ww pF wi w_=>Fx D 0 [wi=eF b o l.length cap,pF=ax j,ww=eu b (o+j * 1),pu=ax l[j],nX=eu Y 1,qX=ax n,tU=.bool (decide (l[j]=n))]/\Inv w (bS [dI (eF b o l.length cap) l]) [ay Y #[ax k,ax n,.string s,kv] ab] S1 w_,⟨Fx.nil _ _,a.draw⟩,⟨?_,?_,?_,?_,?_,?_,?_,trivial⟩,?_⟩;all_goals (intro D bw;intros;rename_i tU qX nX pu ww pF wi w_ a0;have m:=a0.1;obtain ⟨⟨co,cn,bP,cj,cA,bQ,bO,_⟩,a⟩:=a0)
   rotate_left;rotate_left;obtain rfl:=co ‹_›;obtain rfl:=cn ‹_›;apply az cU g;rotate_left
   obtain rfl:=bP ‹_›;refine cS aw (by rw [a.cellS hS];exact aA hR 0 _ rfl) ?_;rotate_left
   apply ah aQ;rotate_left
   obtain rfl:=cA ‹_›;apply aD a 0 aw rfl rfl;rotate_left
   obtain rfl:=cj ‹_›;obtain rfl:=bQ ‹_›;apply bn;rotate_left
   all_goals try exact ⟨m.set _ (by first|rfl|assumption|trivial),a⟩
   obtain ⟨rfl,rfl,rfl,rfl,rfl,rfl,rfl,_⟩:=m.all;clear m co cn bP cj cA bQ bO;refine aJ (fun he=>?_) (fun he=>?_)
   ·refine G l (B _ _ a) ?_;rw [<- hr,nu,ai (by rw [<- f,J,aL he.symm];rfl)]
   ·refine bA (by omega) ?_;exact ⟨⟨j+1,g,rfl,by rw [<- f,J,aS (fun e=>he e.symm)];rfl,a⟩,by simp [intOf];omega⟩
  ·have:j=l.length:=by omega
   subst this;have a6:K5 l n=false:=by rw [<- f,dY];rfl
   have a:Inv w (bS [dI v l]) [ay Y #[ax k,ax n,.string s,kv] ab,dI v l] S _:=B _ _ a;refine ad a 0 rfl aQ aw rfl (dQ a kr rfl (by omega) (by omega) fun b w' a=>?_);refine eT a 1 (k:=1) [ax n] kr (by omega) rfl rfl ?_ ?_ (by omega) (by omega) fun U w' a=>?_
   ·intro j u hj;rw [a.cellL (i:=2) rfl]
    match j with
    | 0=>simpa [Value.cells] using hj
    | j+1=>simp at hj
   ·simp [Value.oneCell']
   ·rw [sd] at a;have a:=a.pick [true,true,false];refine G (b:=Y) (o:=.cells #[ax k,ax n,.string s,kv] ab) (l++[n]) ?_ ?_
    ·have e:Item.row U cR 1 (l.length+1) (ints (l++[n]))=dI U (l++[n]):=by simp [dI]
     exact e ▸ a
    ·rw [<- hr,nu,af (by rw [a6];decide)]
 ·have hr:ef q l=hY (.mk k n s q) l:=by rw [hY,af hk]
  refine ⟨fun i t w'=>∃ (j:Nat) (V:List Int),j<=q.length/\i=ax j/\ef (q.drop j) V=ef q l/\V.length+dx (q.drop j)<=1000000000/\Inv w (bS [dI v l]) [ay Y #[ax k,ax n,.string s,kv] ab,dI t V] S w',
   fun i _ _=>q.length - (intOf i).toNat,⟨0,l,bf _,rfl,rfl,by rw [yE];omega,a⟩,?_⟩
  intro t6 _ _ t0 _ _ _ _ _ _ _ _ _ _ _ _ w';rintro ⟨j,V,hj,rfl,f,a4,a⟩;refine ad a 0 rfl ao aj rfl (aI N ag (bM (aJ (fun Z=>?_) (fun Z=>?_))))
  ·have g:j<q.length:=by omega
   rw [oT q j g] at a4;rw [dB g,ef] at f;have b7:=eK (q.drop (j+1));have b8:=rA q[j] V;refine ad a 0 rfl ao aj rfl (cL a N ag ac g (fun _ _=>RdT.length) fun a5 a1=>?_);refine Run.call (A:=[_]) mT mW a (ih _ (bJ g) S a5 t0 V a1 (by omega)) fun U I' S' w'=>?_;rintro ⟨rfl,rfl⟩ _ a;refine bA (by omega) ?_;exact ⟨⟨j+1,_,g,rfl,f,by omega,a⟩,by simp [intOf];omega⟩
  ·have:j=q.length:=by omega
   subst this;rw [dY,ef] at f;exact G V a (by rw [f,hr])

theorem KW:∀ (t:T) (S:ae) (cs:hZ) (v:Value) (l:List Int),RdT S cs t->l.length+ez t<=1000000000->kt Sy [.agg cs.toArray,v] [dI v l] S (Fj S (r4 t l)):=by
 refine T.ind fun k n s f ih S cs v l h hl=>?_;intro w a;obtain ⟨kv,rfl,_,_,hs,q⟩:=RdT.iff.1 h;simp only [T.name,T.kids,T.kind,T.n] at hs q ⊢;have G:=q.le;simp only [maxLen] at G;rw [show ez (T.mk k n s f)=1+dx f from rfl] at hl;have a5:=eK f;have a6:=Oj l n;apply AE.2;dsimp only[AE,bl];refine bq a fun N w' a=>?_;have a:=a.perm (M:=[ay N #[ax k,ax n,.string s,kv] ab,dI v l]) (List.Perm.swap _ _ _);refine ⟨fun t w'=>Inv w (bS [dI v l]) [ay N #[ax k,ax n,.string s,kv] ab,dI t (if k=1 then nu l n else l)] S w',?_,?_⟩
 ·refine ⟨fun t w'=>t=.bool (decide (k=1) && !K5 l n)/\Inv w (bS [dI v l]) [ay N #[ax k,ax n,.string s,kv] ab,dI v l] S w',?_,?_⟩
  ·refine ad a 0 rfl aM aw rfl (bn ?_);cases h1:decide (k=1)
   ·refine rpG ?_;exact ⟨rfl,a⟩
   ·refine rpG ?_;apply ad a 0 rfl aQ aw rfl;obtain ⟨S1,a4,a0,a,r⟩:=Inv.lend (A:=[_]) a;refine Run.callPure Ax BV a (zy n a0.ints) fun w' a=>?_;apply cq;refine rpG ?_;exact ⟨rfl,r _ _ a⟩
  intro a2 _ _ _ _ _ _ _ _ _ w';rintro ⟨rfl,a⟩;refine aE (fun D=>?_) (fun D=>?_)
  ·simp only [aZ,bt,lg] at D;refine ad a 0 rfl aQ aw rfl (dQ a kr rfl (by omega) (by omega) fun b w' a=>?_);refine eT a 1 (k:=1) [ax n] kr (by omega) rfl rfl ?_ ?_ (by omega) (by omega) fun V w' a=>?_
   ·intro j u O;rw [a.cellL (i:=2) rfl]
    match j with
    | 0=>simpa [Value.cells] using O
    | j+1=>simp at O
   ·simp [Value.oneCell']
   ·rw [sd] at a;have a:=a.pick [true,true,false];rw [ai D.1,nu,af (by rw [D.2];decide)];have e:Item.row V cR 1 (l.length+1) (ints (l++[n]))=dI V (l++[n]):=by simp [dI]
    rw [show List.length l+1=l.length+1 from rfl,e] at a;exact a
  ·have:(if k=1 then nu l n else l)=l:=by
    split
    ·rename_i hk
     rw [nu];simp [hk] at D;rw [ai D]
    ·rfl
   rw [this];exact a
 intro t1 _ _ _ _ _ _ _ _ _ _ _ _ _ _ _ w' a;have a1:((if k=1 then nu l n else l).length:Int)+dx f<=1000000000:=by split <;> omega
 rw [show r4 (.mk k n s f) l=fm f (if k=1 then nu l n else l) from by rw [r4]];generalize (if k=1 then nu l n else l)=l1 at a a1 ⊢;refine ad a 0 rfl ao aj rfl ?_;refine aI q ag ?_;refine ⟨fun i t w'=>∃ (j:Nat) (B:List Int),j<=f.length/\i=ax j/\fm (f.drop j) B=fm f l1/\B.length+dx (f.drop j)<=1000000000/\Inv w (bS [dI v l]) [ay N #[ax k,ax n,.string s,kv] ab,dI t B] S w',
  fun i _ _=>f.length - (intOf i).toNat,⟨0,l1,bf _,rfl,rfl,by rw [yE];omega,a⟩,?_⟩
 intro a3 _ t1 _ _ _ _ _ _ _ w';rintro ⟨j,B,O,rfl,g,U,a⟩;refine bM (aJ (fun Y=>?_) (fun Y=>?_))
 ·have o:j<f.length:=by omega
  rw [oT f j o] at U;rw [dB o,fm] at g;have a7:=eK (f.drop (j+1));have a8:=IZ f[j] B;refine cL a q ag ac o (fun _ _=>RdT.length) fun Z m=>?_;have J:=m.length;refine aG a aV fun b6 w' a=>?_;refine aq a 2 rfl ac (by simpa using J) rfl (by simpa using m.one) fun w' a=>?_;refine av a 2 ac rfl (by simpa using J) ?_;have a:=a.pick [true,true,false];refine Run.call (A:=[_]) BO BR a (ih _ (bJ o) S Z t1 B m (by omega)) fun V I' S' w'=>?_;rintro ⟨rfl,rfl⟩ _ a;refine bA (by omega) ?_;exact ⟨⟨j+1,_,o,rfl,g,by omega,a⟩,by simp [intOf];omega⟩
 ·have:j=f.length:=by omega
  subst this;rw [dY,fm] at g;subst g;exact ⟨_,_,_,rfl,a.pick [false,true],Ext.refl _ _ _,rfl,rfl⟩
theorem te {ts:List T} {S:ae} {v:Value} (h:RdSl S 4 (RdT S) v ts) (hl:dx ts<=1000000000):kt Ui [v] [] S (Fj S (fm ts [])):=by
 intro w a;have o:=h.le;simp only [maxLen] at o;refine FQ.2 ?_;dsimp only[FQ,aR];refine aI h ag ?_;refine ⟨fun i t w'=>∃ (j:Nat) (m:List Int),j<=ts.length/\i=ax j/\fm (ts.drop j) m=fm ts []/\m.length+dx (ts.drop j)<=1000000000/\Inv w [] [dI t m] S w',
  fun i _ _=>ts.length - (intOf i).toNat,⟨0,[],bf _,rfl,rfl,by simpa using hl,a.rowNil cR 1⟩,?_⟩
 intro N _ G _ _ _ _ _ _ _ w';rintro ⟨j,m,O,rfl,f,r,a⟩;refine bM (aJ (fun B=>?_) (fun B=>?_))
 ·have l:j<ts.length:=by omega
  rw [oT ts j l] at r;rw [dB l,fm] at f;have J:=eK (ts.drop (j+1));have M:=IZ ts[j] m;refine cL a h ag ac l (fun _ _=>RdT.length) fun D g=>?_;have q:=g.length;refine aG a aV fun U w' a=>?_;refine aq a 1 rfl ac (by simpa using q) rfl (by simpa using g.one) fun w' a=>?_;refine av a 1 ac rfl (by simpa using q) ?_;have a:=a.pick [true,false];refine Run.call (A:=[]) BO BR a (KW _ S D G m g (by omega)) fun V I' S' w'=>?_;rintro ⟨rfl,rfl⟩ _ a;refine bA (by omega) ?_;exact ⟨⟨j+1,_,l,rfl,f,by omega,a⟩,by simp [intOf];omega⟩
 ·have:j=ts.length:=by omega
  subst this;rw [dY,fm] at f;subst f;exact ⟨_,_,_,rfl,a,Ext.refl _ _ _,rfl,rfl⟩
end
section
open Go Go.RowKit

section
variable {P:Program} {w w0:World} {X:List Nat} {L:List Item} {S:ae} {K:Value->Value->Value->World->Prop}
end
end
section
open Go Go.ChangeShapes Go.WideShapes Go.ChangeAt Go.RowKit

def Wt (W:World):ae:=fun b=>W.heap[b]?
section
variable {H:Type} {enc:TypeId × Value->H} {P:Program} {W:World} {sp:Nat->Bool} {held:Bool}
theorem W7 {a:Addr} {v:Value} (h:W.cell? a=some v):∃ b o c E f,a=⟨b,o,none⟩/\W.heap[b]?=some (.cells c E f)/\c[o]?=some v:=by
 obtain ⟨b,o,s⟩:=a;simp only [World.cell?] at h;split at h
 ·rename_i c E f g
  cases s with
  | none=>exact ⟨b,o,c,E,f,rfl,g,by simpa using h⟩
  | some s=>simp at h
 ·cases h
theorem ZJ {b o k:Nat} {cs:hZ} {c:Array Value} {E:TypeId} {f:Nat × Nat} (g:W.heap[b]?=some (.cells c E f)) (h:W.cells? 0 ⟨b,o,none⟩ k=some cs):aO c o k=cs:=by
 unfold World.cells? at h;rw [ai (bf _)] at h;have hl:cs.length=k:=by simpa using mapM_some_length h
 apply ya;intro i;rw [aO,ym];by_cases a:i<k
 ·rw [ai a,AW];have:=mapM_some_get h i i (by simp [a]);rw [<- this,mK];simp [World.cell?,g]
 ·rw [af a,Qh (by omega)]
theorem FW {α:Type} (p:Nat->α->Prop):∀ n:Nat,(∀ i,i<n->∃ t,p i t)->∃ xs:List α,xs.length=n/\∀ i (h:i<xs.length),p i xs[i]
 | 0,_=>⟨[],rfl,fun i h=>by simp at h⟩
 | n+1,h=>by
  obtain ⟨xs,hl,f⟩:=FW p n fun i a=>h i (by omega);obtain ⟨t,g⟩:=h n (by omega);refine ⟨xs++[t],by simp [hl],fun i a=>?_⟩;by_cases e:i<xs.length
  ·rw [iO e];exact f i e
  ·have:i=xs.length:=by simp at a;omega
   subst this;simp only [gF (be _),fH,pi];rw [hl];exact g
theorem Gb {T e:TypeId} {k:Nat} (h:dt P T=some (e,k)):P.underlying T=some (.slice e)/\P.cellsOf e=k:=by
 unfold dt at h;split at h
 ·rename_i j f
  rw [Ta] at h;obtain ⟨i,g,a⟩:=h;simp only [cV] at a;obtain ⟨rfl,rfl⟩:=a;exact ⟨f,by simp [Program.cellsOf,g]⟩
 ·cases h
theorem abl {α:Type} {R:hZ->α->Prop} {T e:TypeId} {k fuel:Nat} {v:Value} {x:DataW H × List MemPlace} (Y:dt P T=some (e,k)) (m:0<k)
  (h:DataW.trod enc P W 0 sp held fuel T [v]=some x) (q:∀ n cs y,fuel=n+1->DataW.trod enc P W 0 sp held n e cs=some y->∃ t:α,R cs t):∃ xs,RdSl (Wt W) k R v xs:=by
 obtain ⟨B,hk⟩:=Gb Y;rcases DataW.trod_slice B h with ⟨f,_⟩|⟨a,len,cap,O,rest,n,hf,f,_,_,hl,hc,V,hE,_⟩
 ·simp only [gV,i0] at f;subst f;exact ⟨[],none,0,rfl,be _,bf _,.inl rfl⟩
 ·simp only [gV,i0] at f;subst f;have M:∀ i,i<len->∃ t:α,∃ cs,W.cells? 0 (a.add (i * k)) k=some cs/\R cs t:=by
   intro i r;have:=hE i r;rw [hk,gd (by omega),Option.bind_eq_some_iff] at this;obtain ⟨cs,g,l⟩:=this;obtain ⟨t,Z⟩:=q n cs _ hf l;exact ⟨t,cs,g,Z⟩
  obtain ⟨xs,D,j⟩:=FW _ len M;subst D;refine ⟨xs,some a,cap,rfl,hl,hc,?_⟩;by_cases h0:xs.length=0
  ·exact .inl (iy h0)
  ·obtain ⟨G,g,_⟩:=j 0 (by omega);have e0:a.add (0 * k)=a:=by rw [sz];simp [Addr.add]
   rw [e0] at g;have N:∃ u,W.cell? a=some u:=by
    unfold World.cells? at g;rw [ai (bf _)] at g;have a0:G.length=k:=by simpa using mapM_some_length g
    have:=mapM_some_get g 0 0 (by simp [m]);rw [gd (by omega)] at this;have e1:a.add 0=a:=by simp [Addr.add]
    rw [e1] at this;exact ⟨_,this⟩
   obtain ⟨u,J⟩:=N;obtain ⟨b,o,c,E,fz,rfl,U,_⟩:=W7 J;refine .inr ⟨b,o,c,E,fz,rfl,U,fun i r=>?_⟩;obtain ⟨cs,l,hR⟩:=j i r;rw [mK] at l;rw [ZJ U l];exact hR
end

section
variable {H:Type} {enc:TypeId × Value->H} {W:World} {sp:Nat->Bool} {held:Bool}
theorem four {cs:hZ} (h:cs.length=4):∃ a b c d,cs=[a,b,c,d]:=by
 match cs,h with
 | [a,b,c,d],_=>exact ⟨a,b,c,d,rfl⟩
end

theorem Inv.entry (W:World):Inv W [] [] (Wt W) W:=Inv.start (L:=[]) (by simp) (by simp [bS]) fun b o a=>⟨a,by simp [bS]⟩
theorem Inv.same {W W':World} {L:List Item} {S:ae} (h:Inv W [] L S W') (b:Nat) (a:b<W.heap.size):W'.heap[b]?=W.heap[b]?:=h.old b a (by simp)
theorem XN {W W':World} {a:MemPlace->Prop} (f:W'.os=W.os) (g:W'.output=W.output) (h:∀ b,b<W.heap.size->W'.heap[b]?=W.heap[b]?):W.keptBut W' a:=by
 refine ⟨f,g,fun i j=>?_⟩;rw [h i j];split
 ·rename_i e1 e2
  rw [e1] at e2;simp only [aY,Obj.cells.injEq] at e2;obtain ⟨rfl,rfl,rfl⟩:=e2;exact ⟨rfl,rfl,rfl,fun _ _=>rfl⟩
 ·rename_i e1 e2
  rw [e1] at e2;simp only [aY,Obj.map.injEq] at e2;obtain ⟨rfl,rfl⟩:=e2;exact .inr ⟨rfl,rfl⟩
 ·rfl
end
section
open Go Go.RowKit
end
section
open Go Go.RowKit

mutual
def eqT:T->T->Bool
 | .mk k n s ks,.mk k' n' s' ks'=>decide (k=k') && (decide (n=n') && (decide (s=s') && eqL ks ks'))
def eqL:List T->List T->Bool
 | [],[]=>true
 | t::ts,u::us=>eqT t u && eqL ts us
 | _,_=>false
end
mutual
theorem VT:∀ a b:T,eqT a b=true↔a=b
 | .mk k n s ks,.mk k' n' s' ks'=>by
  simp only [eqT,aZ,bt,NC ks ks',T.mk.injEq]
theorem NC:∀ a b:List T,eqL a b=true↔a=b
 | [],[]=>by simp [eqL]
 | [],_::_=>by simp [eqL]
 | _::_,[]=>by simp [eqL]
 | t::ts,u::us=>by
  simp only [eqL,aZ,VT t u,NC ts us,gV]
end
theorem WH:∀ {a b:List T},a.length≠b.length->eqL a b=false:=by
 intro a b h;rw [<- PW,NC];rintro rfl;exact h rfl
theorem Nw {a b c d e:Value}:∀ (j:Nat) (v:Value),([a,b,c,d]:hZ)[j]?=some v->(#[a,b,c,d,e]:Array Value)[0+j]?=some v
 | 0,_,h|1,_,h|2,_,h|3,_,h=>h
 | j+4,_,h=>by simp at h
end
section
open Go Go.RowKit
end
section
open Go Go.RowKit
section
variable {P:Program} {w w0:World} {X:List Nat} {L:List Item} {S:ae} {K:Value->World->Prop}
theorem Zs {T:TypeId} {f g:Bool} {a b:Int} (h:b≠0) (hk:K (ax (a.tmod b)) w):Run P (dH .rem T f g (ax a) (ax b)) w K:=
 Run.of (by simp [dH,dN,binOp,Op.intDiv,h]) hk
theorem abO {T:TypeId} {f g:Bool} {a b:Int} (h:b≠0) (i:-9223372036854775808<=a.tdiv b/\a.tdiv b<=9223372036854775807) (hk:K (ax (a.tdiv b)) w):Run P (dH .quo T f g (ax a) (ax b)) w K:=
 Run.of (by simp [dH,dN,binOp,Op.intDiv,h,IntWalk.i64_in _ i]) hk
end

end
section
open Go Go.RowKit

theorem Part.upd {α:Type} {k:Nat} {R:bz->hZ->α->Prop} {c a:Array Value} {Ls:List bz} {xs:List α} (h:Part k R c Ls xs) {i:Nat} {L':bz} {x:α} (g:R L' (aO a (i * k) k) x)
  (f:∀ j,j≠i->aO a (j * k) k=aO c (j * k) k):Part k R a (Ls.set i L') (xs.set i x):=by
 refine ⟨by simp [h.1],fun j l m=>?_⟩;by_cases e:i=j
 ·subst e;rw [Md,Md];exact g
 ·rw [QC e,QC e,f j fun o=>e o.symm];exact h.2 j (by simpa using l) (by simpa using m)
end
section
open Go Go.RowKit

section
theorem TrC.parts {L:bz} {cs:hZ} {c:C} (h:TrC L cs c):∃ kv a L1 L2,cs=[ax c.head.kind,ax c.head.n,.string c.head.name,kv,a]/\L=L1++L2/\TrSl 4 TrT L1 kv c.head.kids/\TrSl 4 TrT L2 a c.body:=by
 obtain ⟨hd,a,L1,L2,rfl,rfl,g,i⟩:=h;obtain ⟨kv,rfl,_,_,_,f⟩:=TrT.iff.1 g;exact ⟨kv,a,L1,L2,rfl,rfl,f,i⟩
end
end
section
open Go Go.RowKit

end
section
open Go Go.RowKit

theorem PI:Tryz.prog.underlying ed=some (.struct (Tryz.prog.fieldsOf ed)):=by kernel_rfl
theorem Tu:Tryz.prog.stoodInHeld ed=false:=by kernel_rfl
theorem Sf:Tryz.prog.eqGuardType Tryz.prog.depth ed=false:=by kernel_rfl
theorem ti {P:Program} {w:World} {T:TypeId} {cs:Array Value} {a:Nat} {v:Value} (h:jK P T=true) (f:cs[a]?=some v):(part T cs a).run P w=.ok v w:=by
 simp [part,(Dk (w:=w) h).1,f]
theorem Zl {w:World} (s a:ByteArray) (n n':Int) :
  (Op.equalIn 10000 ed (.agg #[.string s,ax n]) (.agg #[.string a,ax n'])).run Tryz.prog w=.ok (decide (s=a) && decide (n=n')) w:=by
 rw [show (10000:Nat)=9999+1 from rfl,run_equalIn_struct w 9999 ed _ _ PI Tu];have hf:(Tryz.prog.fieldsOf ed).toList=[(Tryz.prog.fieldsOf ed)[0]!,(Tryz.prog.fieldsOf ed)[1]!]:=by kernel_rfl
 have f:((Tryz.prog.fieldsOf ed)[0]!).type=jf:=by kernel_rfl
 have g:((Tryz.prog.fieldsOf ed)[1]!).type=cR:=by kernel_rfl
 have h:((Tryz.prog.fieldsOf ed)[0]!).offset=0:=by kernel_rfl
 have i:((Tryz.prog.fieldsOf ed)[1]!).offset=1:=by kernel_rfl
 have j:((Tryz.prog.fieldsOf ed)[0]!).name≠"_" := by decide +kernel
 have l:((Tryz.prog.fieldsOf ed)[1]!).name≠"_" := by decide +kernel
 rw [hf];have m:(Op.equalIn (9998+1) jf (.string s) (.string a)).run Tryz.prog w=.ok (decide (s=a)) w:=by
  rw [run_equalIn_string w 9998 jf s a bg,BI]
 have e1:(Op.equalIn (9998+1) cR (ax n) (ax n')).run Tryz.prog w=.ok (decide (n=n')) w:=by
  rw [run_equalIn_int w 9998 cR .i64 .i64 n n' gO];rfl
 rw [show (9999:Nat)=9998+1 from rfl];generalize o:(Tryz.prog.fieldsOf ed)[0]! = g0 at *;generalize q:(Tryz.prog.fieldsOf ed)[1]! = g1 at *;simp only [Op.eqFields,j,l,ne_eq,not_false_eq_true,if_true,Sem.run_bind,f,g,h,i];rw [ti aP (v:=.string s) rfl,Result.andThen_ok,ti aP (v:=.string a) rfl,Result.andThen_ok,m,Result.andThen_ok];cases decide (s=a) with
 | false=>rfl
 | true=>
  simp only [Bool.not_true,H2,if_false,Sem.run_bind];rw [ti aw (v:=ax n) rfl,Result.andThen_ok,ti aw (v:=ax n') rfl,Result.andThen_ok,e1,Result.andThen_ok];cases decide (n=n') with
  | false=>rfl
  | true=>rfl
section
variable {w:World} {K:Value->World->Prop}
theorem Ze {f g:Bool} {s a:ByteArray} {n n':Int} :
  (dH .eql ed f g (.agg #[.string s,ax n]) (.agg #[.string a,ax n'])).run Tryz.prog w=.ok (.value (.bool (decide (s=a) && decide (n=n')))) w:=by
 unfold dH;rw [Sem.run_bind,run_eqGuard_agg w .eql ed _ _ _ _ Sf,Result.andThen_ok,Sem.run_bind,run_eql_struct,Zl,Result.andThen_ok,Result.andThen_ok];rfl
theorem K9 {s:ByteArray} {n:Int}:(bZ ed [(0,.string s),(1,ax n)]).run Tryz.prog w=.ok (.value (.agg #[.string s,ax n])) w:=by
 unfold bZ;rw [Sem.run_bind,run_build w ed _ #[.string s,ax n] (by kernel_rfl),Result.andThen_ok];rfl
theorem aci {f g:Bool} {s a:ByteArray} {n n':Int} (hk:K (.bool (decide (s=a) && decide (n=n'))) w):Run Tryz.prog (dH .eql ed f g (.agg #[.string s,ax n]) (.agg #[.string a,ax n'])) w K:=
 Run.of Ze hk
theorem QF {s:ByteArray} {n:Int} (hk:K (.agg #[.string s,ax n]) w):Run Tryz.prog (bZ ed [(0,.string s),(1,ax n)]) w K:=
 Run.of K9 hk
end

structure Pd where
 name:ByteArray
 arity:Int
deriving DecidableEq
def Pd.cells (x:Pd):List Value:=[.string x.name,ax x.arity]
def cW (t:T):Pd:=⟨t.name,t.kids.length⟩
def kX (x y:Pd):Bool:=decide (x.name=y.name) && decide (x.arity=y.arity)
theorem rF (x y:Pd):kX x y=decide (x=y):=by
 obtain ⟨a,b⟩:=x;obtain ⟨c,d⟩:=y;rw [kX,qt];simp
theorem CJ {t:T} {S:ae} {cs:hZ} (h:RdT S cs t):ll YY [.agg cs.toArray] S (.agg (cW t).cells.toArray):=by
 intro w a;obtain ⟨kv,rfl,_,_,g,f⟩:=RdT.iff.1 h;obtain ⟨k,n,s,l⟩:=t;simp only [T.name,T.kids,T.kind,T.n] at g f ⊢;apply LZ.2;dsimp only[LZ,aR];refine bq a fun i w' a=>?_;refine aG a Y6 fun j w' a=>?_;refine ad a 0 rfl aW aP rfl (ad a 0 rfl ao aj rfl (aI f ag (QF (aq a 1 rfl Iz rfl rfl (by simp [Value.oneCell']) fun w' a=>?_))));apply bm a 1 Iz rfl rfl;exact done a rfl
def ig (f:C->Bool):List C->Nat->List Int
 | [],_=>[]
 | c::cs,k=>if f c=true then (k:Int)::ig f cs (k+1) else ig f cs (k+1)
theorem Iq (f:C->Bool):∀ (p:List C) (k:Nat) (n:Int),n∈ig f p k->∃ i:Nat,(k:Int)<=n/\n=k+i/\∃ h:i<p.length,f p[i]=true
 | [],k,n,h=>by simp [ig] at h
 | c::cs,k,n,h=>by
  have a:n∈ig f cs (k+1)->∃ i:Nat,(k:Int)<=n/\n=k+i/\∃ h:i<(c::cs).length,f (c::cs)[i]=true:=by
   intro h;obtain ⟨i,l,m,g,j⟩:=Iq f cs (k+1) n h;exact ⟨i+1,by omega,by omega,by simpa using g,by simpa using j⟩
  rw [ig] at h;split at h
  ·rcases cw.1 h with rfl|h
   ·exact ⟨0,by omega,by omega,by simp,by simpa using ‹f c=true›⟩
   ·exact a h
  ·exact a h
theorem xb (f:C->Bool):∀ (p:List C) (k:Nat),(ig f p k).length<=p.length
 | [],k=>by simp [ig]
 | c::cs,k=>by
  have:=xb f cs (k+1);rw [ig];split <;> simp <;> omega
end
section
open Go Go.RowKit

theorem JS (f:C->Bool) (p:List C) (k:Nat) (h:k<p.length) (l:List Int):(if f p[k]=true then l++[(k:Int)] else l)++ig f (p.drop (k+1)) (k+1)=l++ig f (p.drop k) k:=by
 rw [dB h,ig];split
 ·rw [eY];rfl
 ·rfl

theorem Dz {p:List C} {S:ae} {v:Value} (x:Pd) (h:RdSl S 5 (RdC S) v p) (hp:p.length<=2000000):kt Id [v,.agg x.cells.toArray] [] S (Fj S (ig (fun c=>kX (cW c.head) x) p 0)):=by
 intro w f;obtain ⟨xs,o⟩:=x;refine tE.2 ?_;dsimp only[tE,bl];refine bq f fun J w' f=>?_;refine aI h cr ?_;refine ⟨fun i t w'=>∃ (k:Nat) (l:List Int),k<=p.length/\i=ax k/\l++ig (fun c=>kX (cW c.head) ⟨xs,o⟩) (p.drop k) k=ig (fun c=>kX (cW c.head) ⟨xs,o⟩) p 0/\l.length<=k/\
   Inv w [] [ay J #[.string xs,ax o] ed,dI t l] S w',fun i _ _=>p.length - (intOf i).toNat,⟨0,[],bf _,rfl,rfl,be _,f.rowNil cR 1⟩,?_⟩
 intro a2 _ N _ _ _ _ a3 a4 a5 a6 a7 _ _ _ _ _ _ w';rintro ⟨k,l,hk,rfl,m,hl,f⟩;refine bM (aJ (fun U=>?_) (fun U=>?_))
 ·have q:k<p.length:=by omega
  refine ⟨fun t w'=>Inv w [] [ay J #[.string xs,ax o] ed,dI t (if kX (cW p[k].head) ⟨xs,o⟩=true then l++[(k:Int)] else l)] S w',?_,?_⟩
  ·refine cL f h cr bR q (fun _ _=>RdC.length) fun cs V=>?_;obtain ⟨hd,M,rfl,h1,h2⟩:=V;have a1:=h1;obtain ⟨kv,rfl,_,_,hs,a0⟩:=RdT.iff.1 h1;have G:kv.oneCell'=true/\M.oneCell'=true:=by
    obtain ⟨a,cap,rfl,_⟩:=a0;obtain ⟨a,cap,rfl,_⟩:=h2;exact ⟨rfl,rfl⟩
   refine aG f fj fun Y w' f=>?_;refine aq f 2 rfl bR rfl rfl (by
    intro u hu;have r:u∈([ax p[k].head.kind,ax p[k].head.n,.string p[k].head.name,kv,M]:hZ):=hu;simp at r;rcases r with rfl|rfl|rfl|rfl|rfl <;> first|rfl|exact G.1|exact G.2) fun w' f=>?_
   have f:Inv w [] [ay J #[.string xs,ax o] ed,dI N l,ay Y #[ax p[k].head.kind,ax p[k].head.n,.string p[k].head.name,kv,M] aB] S w':=f;refine ⟨fun D pu ww pF wi zZ O=>Fx D 0 [zZ=ee Y,wi=.agg (gn (p[k].head) kv),pF=.agg #[.string p[k].head.name,ax p[k].head.kids.length],ww=.agg #[.string xs,ax o],pu=.bool (kX (cW p[k].head) ⟨xs,o⟩)]/\Inv w [] [ay J #[.string xs,ax o] ed,dI N l,ay Y #[ax p[k].head.kind,ax p[k].head.n,.string p[k].head.name,kv,M] aB] S O,⟨Fx.nil _ _,f.draw⟩,⟨?_,?_,?_,?_,?_,trivial⟩,?_⟩;all_goals (intro D bw;intros;rename_i pu ww pF wi zZ O B;have g:=B.1;obtain ⟨⟨co,cn,bP,cj,cA,_⟩,f⟩:=B)
   apply ah dl;rotate_left
   obtain rfl:=co ‹_›;refine cP f 2 (hJ (p[k].head) kv) ac rfl rfl Nw ?_;rotate_left
   obtain rfl:=cn ‹_›;refine Run.callPure LM Mw f (CJ a1) fun O f=>?_;rotate_left
   apply av f 0 Iz rfl rfl;rotate_left
   obtain rfl:=bP ‹_›;obtain rfl:=cj ‹_›;apply aci;rotate_left
   all_goals try exact ⟨g.set _ (by first|rfl|assumption|trivial),f⟩
   obtain ⟨rfl,rfl,rfl,rfl,rfl,_⟩:=g.all;clear g co cn bP cj cA;refine aE (fun Z=>?_) (fun Z=>?_)
   ·refine dQ f kr rfl (by omega) (by omega) fun b w' f=>?_;refine eT f 1 (k:=1) [ax k] kr (by omega) rfl rfl ?_ ?_ (by omega) (by omega) fun v' w' f=>?_
    ·intro j u hj;rw [f.cellL (i:=3) rfl]
     match j with
     | 0=>simpa [Value.cells] using hj
     | j+1=>simp at hj
    ·simp [Value.oneCell']
    ·rw [sd] at f;have f:=f.pick [true,true,false,false];rw [ai Z];have e:Item.row v' cR 1 (l.length+1) (ints (l++[(k:Int)]))=dI v' (l++[(k:Int)]):=by simp [dI]
     rw [show List.length l+1=l.length+1 from rfl,e] at f;exact f
   ·rw [af (by rw [Z];decide)];exact f.pick [true,true,false]
  intro N _ _ _ _ _ _ _ _ _ _ _ _ _ _ w' f;refine bA (by omega) ?_;refine ⟨⟨k+1,_,q,rfl,?_,?_,f⟩,by simp [intOf];omega⟩
  ·rw [JS (fun c=>kX (cW c.head) ⟨xs,o⟩) p k q l,m]
  ·split
   ·simp;omega
   ·omega
 ·have:k=p.length:=by omega
  subst this;rw [dY,ig,dc] at m;subst m;exact ⟨_,_,_,rfl,f.pick [false,true],Ext.refl _ _ _,rfl,rfl⟩

theorem R9 {p:List C} {g:T} {S:ae} {v:Value} {cs:hZ} (h:RdSl S 5 (RdC S) v p) (hg:RdT S cs g) (hp:p.length<=2000000) :
  kt XV [v,.agg cs.toArray] [] S (Fj S (ig (fun c=>kX (cW c.head) (cW g)) p 0)):=by
 intro w f;obtain ⟨gv,rfl,_,_,a3,a0⟩:=RdT.iff.1 hg;obtain ⟨J,M,gs,q⟩:=g;simp only [T.name,T.kids,T.kind,T.n] at a3 a0 ⊢;refine Io.2 ?_;dsimp only[Io,bl];refine bq f fun N w' f=>?_;refine fg f kr fun v0 w' f=>?_;refine ⟨fun i t w'=>∃ (k:Nat) (l:List Int),k<=p.length/\i=ax k/\l++ig (fun c=>kX (cW c.head) (cW (.mk J M gs q))) (p.drop k) k=ig (fun c=>kX (cW c.head) (cW (.mk J M gs q))) p 0/\l.length<=k/\
   Inv w [] [ay N #[ax J,ax M,.string gs,gv] ab,dI t l] S w',fun i _ _=>p.length - (intOf i).toNat,⟨0,[],bf _,rfl,rfl,be _,f⟩,?_⟩
 intro t6 _ _ t5 _ _ _ _ a5 a6 a7 a8 a9 b0 b1 b2 b4 b5 b6 b7 b8 b9 c0 c1 c2 c3 c4 c5 c6 c7 _ _ _ _ w';rintro ⟨k,l,hk,rfl,B,hl,f⟩;refine aI h cr (bM (aJ (fun a2=>?_) (fun a2=>?_)))
 ·have r:k<p.length:=by omega
  refine ⟨fun t w'=>Inv w [] [ay N #[ax J,ax M,.string gs,gv] ab,dI t (if kX (cW p[k].head) (cW (.mk J M gs q))=true then l++[(k:Int)] else l)] S w',?_,?_⟩
  ·obtain ⟨b,o,cap,c,E,fz,rfl,hS,hR⟩:=h.at_ r;obtain ⟨hd,c8,O,h1,h2⟩:=hR;obtain ⟨kv,rfl,_,_,c9,a4⟩:=RdT.iff.1 h1;have a1:kX (cW p[k].head) (cW (.mk J M gs q))=(decide (p[k].head.name=gs) && decide ((p[k].head.kids.length:Int)=q.length)):=rfl;cases hq:decide (p[k].head.name=gs)
   ·have hf:kX (cW p[k].head) (cW (.mk J M gs q))=false:=by rw [a1,hq];rfl
    refine ⟨fun D V Y Z rr kY gQ lO jW pp oR iU pj vz tU qX nX pu ww pF wi zZ xw w_=>Fx D 0 [xw=eF b o p.length cap,zZ=ax k,wi=eu b (o+k * 5),pF=eu b (o+k * 5),ww=eu b (o+k * 5+2),pu=.string p[k].head.name,nX=eu N 2,qX=.string gs,tU=.bool false,vz=.bool false,pj=undef,iU=undef,oR=undef,pp=undef,jW=undef,lO=undef,gQ=undef,kY=undef,rr=undef,Z=undef,Y=undef,V=.bool false]/\Inv w [] [ay N #[ax J,ax M,.string gs,gv] ab,dI t5 l] S w_,⟨Fx.nil _ _,f.draw⟩,⟨?_,?_,?_,?_,?_,?_,?_,?_,?_,?_,?_,?_,?_,?_,?_,?_,?_,?_,?_,?_,?_,?_,trivial⟩,?_⟩;all_goals (intro D bw;intros;rename_i V Y Z rr kY gQ lO jW pp oR iU pj vz tU qX nX pu ww pF wi zZ xw w_ G;have a:=G.1;obtain ⟨⟨co,cn,bP,cj,cA,bQ,bO,cM,de,m,bU,cC,cY,dK,dd,ek,eH,fl,gZ,fI,iI,jU,_⟩,f⟩:=G)
    rotate_left;rotate_left;obtain rfl:=co ‹_›;obtain rfl:=cn ‹_›;apply az cr r;rotate_left
    obtain rfl:=bP ‹_›;apply ah dl;rotate_left
    obtain rfl:=cj ‹_›;apply ah aW;rotate_left
    obtain rfl:=cA ‹_›;refine cS aP (by rw [f.cellS hS];exact aA O 2 _ rfl) ?_;rotate_left
    apply ah aW;rotate_left
    obtain rfl:=bO ‹_›;apply aD f 0 aP rfl rfl;rotate_left
    obtain rfl:=bQ ‹_›;obtain rfl:=cM ‹_›;apply bB;rw [hq];rotate_left
    obtain rfl:=de ‹_›;rotate_left
    obtain rfl:=m ‹_›;refine dk (c:=false) (b:=true) (by decide) ?_;rotate_left
    obtain rfl:=m ‹_›;refine dk (c:=false) (b:=true) (by decide) ?_;rotate_left
    obtain rfl:=bU ‹_›;obtain rfl:=cC ‹_›;obtain rfl:=m ‹_›;refine dk (c:=false) (b:=true) (by decide) ?_;rotate_left
    obtain rfl:=cY ‹_›;obtain rfl:=m ‹_›;refine dk (c:=false) (b:=true) (by decide) ?_;rotate_left
    obtain rfl:=dK ‹_›;obtain rfl:=m ‹_›;refine dk (c:=false) (b:=true) (by decide) ?_;rotate_left
    obtain rfl:=dd ‹_›;obtain rfl:=m ‹_›;refine dk (c:=false) (b:=true) (by decide) ?_;rotate_left
    obtain rfl:=ek ‹_›;obtain rfl:=m ‹_›;refine dk (c:=false) (b:=true) (by decide) ?_;rotate_left
    obtain rfl:=m ‹_›;refine dk (c:=false) (b:=true) (by decide) ?_;rotate_left
    obtain rfl:=fl ‹_›;obtain rfl:=m ‹_›;refine dk (c:=false) (b:=true) (by decide) ?_;rotate_left
    obtain rfl:=gZ ‹_›;obtain rfl:=m ‹_›;refine dk (c:=false) (b:=true) (by decide) ?_;rotate_left
    obtain rfl:=eH ‹_›;obtain rfl:=fI ‹_›;obtain rfl:=m ‹_›;refine dk (c:=false) (b:=true) (by decide) ?_;rotate_left
    obtain rfl:=m ‹_›;obtain rfl:=iI ‹_›;apply tq;rotate_left
    all_goals try exact ⟨a.set _ (by first|rfl|assumption|trivial),f⟩
    obtain ⟨rfl,rfl,rfl,rfl,rfl,rfl,rfl,rfl,rfl,rfl,rfl,rfl,rfl,rfl,rfl,rfl,rfl,rfl,rfl,rfl,rfl,rfl,_⟩:=a.all;clear a co cn bP cj cA bQ bO cM de m bU cC cY dK dd ek eH fl gZ fI iI jU;refine aE (fun U=>by cases U) (fun U=>?_);rw [hf,af (by decide)];exact f
   ·have hf:kX (cW p[k].head) (cW (.mk J M gs q))=decide ((p[k].head.kids.length:Int)=q.length):=by rw [a1,hq];rfl
    refine ⟨fun D V Y Z rr kY gQ lO jW pp oR iU pj vz tU qX nX pu ww pF wi zZ xw w_=>Fx D 0 [xw=eF b o p.length cap,zZ=ax k,wi=eu b (o+k * 5),pF=eu b (o+k * 5),ww=eu b (o+k * 5+2),pu=.string p[k].head.name,nX=eu N 2,qX=.string gs,tU=.bool true,vz=.bool true,pj=eF b o p.length cap,iU=ax k,oR=eu b (o+k * 5),pp=eu b (o+k * 5),jW=eu b (o+k * 5+3),lO=kv,gQ=ax p[k].head.kids.length,kY=eu N 3,rr=gv,Z=ax q.length,Y=.bool (decide ((p[k].head.kids.length:Int)=q.length)),V=.bool (decide ((p[k].head.kids.length:Int)=q.length))]/\Inv w [] [ay N #[ax J,ax M,.string gs,gv] ab,dI t5 l] S w_,⟨Fx.nil _ _,f.draw⟩,⟨?_,?_,?_,?_,?_,?_,?_,?_,?_,?_,?_,?_,?_,?_,?_,?_,?_,?_,?_,?_,?_,?_,trivial⟩,?_⟩;all_goals (intro D bw;intros;rename_i V Y Z rr kY gQ lO jW pp oR iU pj vz tU qX nX pu ww pF wi zZ xw w_ G;have a:=G.1;obtain ⟨⟨co,cn,bP,cj,cA,bQ,bO,cM,de,m,bU,cC,cY,dK,dd,ek,eH,fl,gZ,fI,iI,jU,_⟩,f⟩:=G)
    rotate_left;rotate_left;obtain rfl:=co ‹_›;obtain rfl:=cn ‹_›;apply az cr r;rotate_left
    obtain rfl:=bP ‹_›;apply ah dl;rotate_left
    obtain rfl:=cj ‹_›;apply ah aW;rotate_left
    obtain rfl:=cA ‹_›;refine cS aP (by rw [f.cellS hS];exact aA O 2 _ rfl) ?_;rotate_left
    apply ah aW;rotate_left
    obtain rfl:=bO ‹_›;apply aD f 0 aP rfl rfl;rotate_left
    obtain rfl:=bQ ‹_›;obtain rfl:=cM ‹_›;apply bB;rw [hq];rotate_left
    obtain rfl:=de ‹_›;rotate_left
    obtain rfl:=m ‹_›;apply bG;rotate_left
    obtain rfl:=m ‹_›;apply bG;rotate_left
    obtain rfl:=bU ‹_›;obtain rfl:=cC ‹_›;obtain rfl:=m ‹_›;apply bG;refine az cr r ?_;rotate_left
    obtain rfl:=cY ‹_›;obtain rfl:=m ‹_›;apply bG;refine ah dl ?_;rotate_left
    obtain rfl:=dK ‹_›;obtain rfl:=m ‹_›;apply bG;refine ah ao ?_;rotate_left
    obtain rfl:=dd ‹_›;obtain rfl:=m ‹_›;apply bG;refine cS aj (by rw [f.cellS hS];exact aA O 3 _ rfl) ?_;rotate_left
    obtain rfl:=ek ‹_›;obtain rfl:=m ‹_›;apply bG;refine aI a4 ag ?_;rotate_left
    obtain rfl:=m ‹_›;apply bG;refine ah ao ?_;rotate_left
    obtain rfl:=fl ‹_›;obtain rfl:=m ‹_›;apply bG;refine aD f 0 aj rfl rfl ?_;rotate_left
    obtain rfl:=gZ ‹_›;obtain rfl:=m ‹_›;apply bG;refine aI a0 ag ?_;rotate_left
    obtain rfl:=eH ‹_›;obtain rfl:=fI ‹_›;obtain rfl:=m ‹_›;apply bG;refine bn ?_;rotate_left
    obtain rfl:=m ‹_›;obtain rfl:=iI ‹_›;apply A6;rotate_left
    all_goals try exact ⟨a.set _ (by first|rfl|assumption|trivial),f⟩
    obtain ⟨rfl,rfl,rfl,rfl,rfl,rfl,rfl,rfl,rfl,rfl,rfl,rfl,rfl,rfl,rfl,rfl,rfl,rfl,rfl,rfl,rfl,rfl,_⟩:=a.all;clear a co cn bP cj cA bQ bO cM de m bU cC cY dK dd ek eH fl gZ fI iI jU;refine aE (fun U=>?_) (fun U=>?_)
    ·refine dQ f kr rfl (by omega) (by omega) fun b w' f=>?_;refine eT f 1 (k:=1) [ax k] kr (by omega) rfl rfl ?_ ?_ (by omega) (by omega) fun v' w' f=>?_
     ·intro j u hj;rw [f.cellL (i:=2) rfl]
      match j with
      | 0=>simpa [Value.cells] using hj
      | j+1=>simp at hj
     ·simp [Value.oneCell']
     ·rw [sd] at f;have f:=f.pick [true,true,false];rw [hf,ai U];have e:Item.row v' cR 1 (l.length+1) (ints (l++[(k:Int)]))=dI v' (l++[(k:Int)]):=by simp [dI]
      rw [show List.length l+1=l.length+1 from rfl,e] at f;exact f
    ·rw [hf,af (by rw [U];decide)];exact f
  intro t5;(iterate 26 intro);intro w' f;refine bA (by omega) ?_;refine ⟨⟨k+1,_,r,rfl,?_,?_,f⟩,by simp [intOf];omega⟩
  ·rw [JS (fun c=>kX (cW c.head) (cW (.mk J M gs q))) p k r l,B]
  ·split
   ·simp;omega
   ·omega
 ·have:k=p.length:=by omega
  subst this;rw [dY,ig,dc] at B;subst B;exact ⟨_,_,_,rfl,f.pick [false,true],Ext.refl _ _ _,rfl,rfl⟩
end
section
open Go Go.RowKit

def JT (l:List Pd) (x:Pd):Bool:=l.any fun y=>kX x y
def oU (l:List Pd) (x:Pd):List Pd:=if JT l x=true then l else l++[x]
end
section
open Go Go.RowKit

theorem Inv.lendAll {w0 w:World} {X:List Nat} {A:List Item} (M:bz) {S:ae} (h:Inv w0 X (A++bE M) S w) :
  ∃ S',Sle S S'/\Ins S' M/\Inv w0 X A S' w/\∀ B w',Inv w0 X B S' w'->Inv w0 X (B++bE M) S w':=by
 obtain ⟨S',t,l,m,D⟩:=Inv.publishAll M h;have j:=h.nd;rw [cI,qF] at j;refine ⟨S',l,m,t,fun B w' g=>⟨g.size,g.os,g.tape,g.output,g.old,fun it hit=>?_,?_,fun b i=>?_,fun b o i=>⟨(g.pub b o (l b o i)).1,fun f=>?_⟩⟩⟩
 ·rcases ci.1 hit with hit|hit
  ·exact g.its it hit
  ·obtain ⟨p,q,rfl⟩:=eV.1 hit;exact (g.pub _ _ (m p q)).1
 ·rw [cI,qF];refine ⟨g.nd,j.2.1,fun a r b i e=>?_⟩;subst e;obtain ⟨p,q,rfl⟩:=jP.1 i;exact (g.pub _ _ (m p q)).2 r
 ·rw [cI] at i;rcases ci.1 i with i|i
  ·exact g.new b i
  ·exact h.new b (by rw [cI];exact im _ i)
 ·rw [cI] at f;rcases ci.1 f with f|f
  ·exact (g.pub b o (l b o i)).2 f
  ·exact (h.pub b o i).2 (by rw [cI];exact im _ f)
theorem Inv.openRow {w0 w:World} {X:List Nat} {A:List Item} {S:ae} {v:Value} {e:TypeId} {k n:Nat} {xs:hZ} (h:Inv w0 X (A++[.row v e k n xs]) S w) :
  xs.length=n * k/\((v=hV/\n=0) ∨ ∃ g cap a,v=eF g 0 n cap/\n<=cap/\cap<=maxLen/\a.size=cap * k/\a.toList.take (n * k)=xs/\Inv w0 X (A++[ay g a e]) S w):=by
 have f:w.ownsRow 0 e k v n xs:=h.its (.row v e k n xs) (by simp);obtain ⟨hl,f⟩:=f;refine ⟨hl,?_⟩;rcases f with hn|⟨g,cap,a,rfl,_,m,i,j,l,o⟩
 ·exact .inl hn
 ·have hf:bS (A++[Item.blk g (.cells a e)])=bS (A++[Item.row (eF g 0 n cap) e k n xs]):=by
   simp [bS,Item.foot,Value.ownBlock]
  refine .inr ⟨g,cap,a,rfl,i,j,l,o,h.size,h.os,h.tape,h.output,h.old,fun it hit=>?_,by rw [hf];exact h.nd,by rw [hf];exact h.new,by rw [hf];exact h.pub⟩;rcases ci.1 hit with hit|hit
  ·exact h.its it (dO _ hit)
  ·simp at hit;subst hit;exact m
theorem Inv.closeRow {w0 w:World} {X:List Nat} {A:List Item} {S:ae} {g cap k n:Nat} {a:Array Value} {e:TypeId} (h:Inv w0 X (A++[ay g a e]) S w) (hn:n<=cap) (hc:cap<=maxLen) (f:a.size=cap * k) :
  Inv w0 X (A++[.row (eF g 0 n cap) e k n (a.toList.take (n * k))]) S w:=by
 have i:w.heap[g]?=some (.cells a e):=h.its (ay g a e) (by simp);have hf:bS (A++[Item.row (eF g 0 n cap) e k n (a.toList.take (n * k))])=bS (A++[Item.blk g (.cells a e)]):=by
  simp [bS,Item.foot,Value.ownBlock]
 refine ⟨h.size,h.os,h.tape,h.output,h.old,fun it hit=>?_,by rw [hf];exact h.nd,by rw [hf];exact h.new,by rw [hf];exact h.pub⟩;rcases ci.1 hit with hit|hit
 ·exact h.its it (dO _ hit)
 ·simp at hit;subst hit;refine ⟨?_,.inr ⟨g,cap,a,rfl,bf _,i,hn,hc,f,rfl⟩⟩;rw [ey,SZ,f];exact kJ (jw k hn)

end
section
open Go Go.RowKit

structure Grown {α:Type} (k:Nat) (R:bz->List Value->α->Prop) (Ls:List bz) (css:List (List Value)) (ys:List α):Prop where
 hL:Ls.length=ys.length
 hc:css.length=ys.length
 hk:∀ cs∈css,cs.length=k
 hR:∀ i (h:i<ys.length) (h1:i<Ls.length) (h2:i<css.length),R Ls[i] css[i] ys[i]
theorem Grown.nil {α:Type} (k:Nat) (R:bz->hZ->α->Prop):Grown k R [] [] ([]:List α):=⟨rfl,rfl,by simp,fun i h=>by simp at h⟩
theorem Grown.snoc {α:Type} {k:Nat} {R:bz->hZ->α->Prop} {Ls:List bz} {css:List (hZ)} {ys:List α} (h:Grown k R Ls css ys) {L:bz} {cs:hZ} {y:α} (hR:R L cs y) (hl:cs.length=k) :
  Grown k R (Ls++[L]) (css++[cs]) (ys++[y]):=by
 refine ⟨by simp [h.hL],by simp [h.hc],fun c hc=>?_,fun i f g j=>?_⟩
 ·rcases ci.1 hc with hc|hc
  ·exact h.hk c hc
  ·simp at hc;subst hc;exact hl
 ·have e1:=h.hL;have e2:=h.hc;by_cases a:i<ys.length
  ·rw [iO (by omega),iO (by omega),iO a];exact h.hR i a (by omega) (by omega)
  ·have:i=ys.length:=by simp at f;omega
   subst this;rw [gF (by omega),gF (by omega),gF (by omega)];simp only [e1,e2,fH,pi];exact hR
theorem jc (k:Nat):∀ (css:List (hZ)) (i:Nat) (_:∀ cs∈css,cs.length=k) (h:i<css.length),(css.flatten.drop (i * k)).take k=css[i]
 | [],i,_,h=>by simp at h
 | c::css,0,hk,_=>by
  have:=hk c (bi ..);rw [jY,sz,yE,Uc (by omega),Ie (by omega)];rfl
 | c::css,i+1,hk,h=>by
  have:=hk c (bi ..);rw [jY,mi,vR,<- Wm,List.drop_left' this];exact jc k css i (fun cs hc=>hk cs (bk _ hc)) (by simpa using h)
abbrev aK (v:Value) (e:TypeId) (k:Nat) (css:List (List Value)):Item:=.row v e k css.length css.flatten
theorem Inv.rowTree {α:Type} {w0 w:World} {X:List Nat} {A:List Item} {S:ae} {v:Value} {e:TypeId} {k:Nat} {R:bz->hZ->α->Prop} {Ls:List bz} {css:List (hZ)} {ys:List α}
  (h:Inv w0 X (A++(aK v e k css::bE Ls.flatten)) S w) (l:Grown k R Ls css ys):∃ L,TrSl k R L v ys/\Inv w0 X (A++bE L) S w:=by
 have t:List.Perm ((A++bE Ls.flatten)++[aK v e k css]) (A++(aK v e k css::bE Ls.flatten)):=by
  rw [eY];exact yj _ cT
 obtain ⟨hl,r⟩:=(h.perm t).openRow;have f:=l.hc;have m:=l.hL;rcases r with ⟨rfl,O⟩|⟨g,cap,a,rfl,D,j,G,J,M⟩
 ·have:ys=[]:=iy (by omega);subst this;refine ⟨[],TrSl.nil (by simp [maxLen]),?_⟩;simpa [bE] using h.sub (eh _ _)
 ·by_cases N:ys=[]
  ·subst N;have:css=[]:=iy (by simpa using f);subst this;refine ⟨[],TrSl.nil j,?_⟩;simpa [bE] using h.sub (eh _ _)
  ·refine ⟨(g,.cells a e)::Ls.flatten,⟨_,cap,by rw [f],by omega,j,.inr ⟨g,a,e,Ls,rfl,rfl,m,by omega,fun i o q=>?_⟩⟩,?_⟩
   ·have B:i * k+k<=css.length * k:=by rw [<- mi];exact jw k (by omega)
    have:=jc k css i l.hk (by omega);rw [<- J,EX,lW,kJ (by omega)] at this;rw [aO,this];exact l.hR i o q (by omega)
   ·apply M.perm;rw [eY];exact yj _ (cT (l₁:=[Item.blk g (.cells a e)]))
theorem fU (v:Value) (e:TypeId) (k:Nat) (css:List (hZ)) (cs:hZ):Item.row v e k (css.length+1) (css.flatten++cs)=aK v e k (css++[cs]):=by
 simp [aK]
section
variable {P:Program} {w w0:World} {X:List Nat} {L:List Item} {S:ae} {K:Value->World->Prop}
theorem ei (h:Inv w0 X L S w) {T ty e:TypeId} {k by_:Nat} {z v:Value} {cs:List Bool} {css:List (hZ)} (i:Nat) (xs:hZ)
  (B:iP P T=some (e,k,by_,z)) (a:0<k) (f:k<=65536) (D:L[i]?=some (aK v e k css)) (hl:xs.length=k) (G:∀ u∈xs,u.oneCell'=true) (g:css.length+1<=4294967296) (r:by_<=32768)
  {K:Value->Value->World->Prop} (hk:∀ t w',Inv w0 X (L.set i (aK t e k (css++[xs]))) S w'->K (.slice (some ⟨w.heap.size,0,none⟩) 1 1) t w') :
  Run P (bY T 1 [(0,.agg xs.toArray)]) w fun u w'=>Run P (ce .append #[T,T] ty cs [v,u]) w' (K u):=by
 refine xi h B (by simp [Value.cells,hl]) f a fun w' l=>?_;have q:i<L.length:=(fS.1 D).1;refine eT l i xs B a (by rw [vA q];exact D) (by omega) (m:=1) (o:=0) ?_ G g r fun t w' l=>?_
 ·intro j u J;rw [l.cellL (i:=L.length) (by rw [jr (be _),fH];rfl)];rw [dr];simpa [Value.cells] using J
 ·refine hk _ _ ?_;rw [<- fU];rw [VD _ _ q] at l;exact l.sub (eh _ _)
end

section
theorem J9 {ts:List T} (D:∀ t∈ts,∀ (S:ae) (cs:hZ),RdT S cs t->wT t<=1048576->kt WC [.agg cs.toArray] [] S (Fd S t))
  {S:ae} {v:Value} (h:RdSl S 4 (RdT S) v ts) (V:ts.length+wL ts<=1048576):kt Gk [v] [] S (YL 4 TrT S ts):=by
 intro w a;refine Cv.2 ?_;dsimp only[Cv,aR];refine aI h ag ?_;refine ⟨fun i t w'=>∃ (k:Nat) (Ls:List bz) (css:List (hZ)),k<=ts.length/\i=ax k/\Grown 4 TrT Ls css (ts.take k)/\Inv w [] (aK t ab 4 css::bE Ls.flatten) S w',
  fun i _ _=>ts.length - (intOf i).toNat,⟨0,[],[],bf _,rfl,Grown.nil _ _,a.rowNil ab 4⟩,?_⟩
 intro Y _ r _ _ _ _ _ _ _ _ _ w';rintro ⟨k,Ls,css,hk,rfl,o,a⟩;refine bM (aJ (fun q=>?_) (fun q=>?_))
 ·have f:k<ts.length:=by omega
  have N:(ts.take k).length=k:=by simp;omega
  have O:=o.hc;refine cL a h ag ac f (fun _ _=>RdT.length) fun cs g=>?_;have B:=bJ f;have U:=lf B;have m:=g.length;refine aG a aV fun G w' a=>?_;have a:=a.perm (M:=.blk G _::(aK r ab 4 css::bE Ls.flatten)) (cT (l₁:=[_]));refine aq a 0 rfl ac (by simpa using m) rfl (by simpa using g.one) fun w' a=>?_;refine av a 0 ac rfl (by simpa using m) ?_;have a:Inv w [] (aK r ab 4 css::bE Ls.flatten) S w':=a.sub (kA _ _);refine Run.call0 Ym Zu a (D _ B S cs g (by omega)) fun J I' S' w'=>?_;rintro ⟨rfl,l,L,rfl,rfl,j⟩ _ a;refine ei a 0 l bx (by omega) (by omega) rfl j.length j.one (by omega) (by omega) fun J w' a=>?_;refine bA (by omega) ?_;refine ⟨⟨k+1,Ls++[L],css++[l],f,rfl,?_,?_⟩,by simp [intOf];omega⟩
  ·rw [gh f];exact o.snoc j j.length
  ·simp only [AB,jY,uZ,dc,fy];exact a
 ·have:k=ts.length:=by omega
  subst this;rw [fM] at o;obtain ⟨L,j,a⟩:=Inv.rowTree (A:=[]) a o;exact ⟨_,_,_,rfl,a,Ext.refl _ _ _,rfl,_,rfl,j⟩
theorem XX:∀ (t:T) (S:ae) (cs:hZ),RdT S cs t->wT t<=1048576->kt WC [.agg cs.toArray] [] S (Fd S t):=by
 refine T.ind fun k n s J D S cs h G=>?_;intro w f;obtain ⟨kv,rfl,o,q,r,i⟩:=RdT.iff.1 h;simp only [T.name,T.kids,T.kind,T.n] at o q r i ⊢;simp only [wT] at G;apply Rl.2;dsimp only[Rl,aR];refine bq f fun M w' f=>?_;refine aG f aV fun N w' f=>?_;refine ad f 0 rfl ao aj rfl (Run.call0 Da CP f (J9 D i (by omega)) fun g I' S' w'=>?_);rintro ⟨rfl,L,rfl,m⟩ _ f;have l:g.cells=#[g]/\g.oneCell'=true:=by obtain ⟨a,cap,rfl,_⟩:=m;exact ⟨rfl,rfl⟩
 refine cX f 0 rfl ao aj rfl l.1 l.2 fun w' f=>?_;refine av f 0 ac rfl rfl (aq f 1 rfl ac rfl rfl ?_ fun w' f=>?_)
 ·intro u B;have j:u∈([ax k,ax n,.string s,g]:hZ):=B;simp at j;rcases j with rfl|rfl|rfl|rfl <;> first|rfl|exact l.2
 apply bm f 1 ac rfl rfl;refine ⟨_,_,_,rfl,f.sub (eR [_,_] (bE L)),Ext.refl _ _ _,rfl,[ax k,ax n,.string s,g],L,rfl,rfl,TrT.iff.2 ⟨g,rfl,o,q,r,m⟩⟩
theorem Kx {ts:List T} {S:ae} {v:Value} (h:RdSl S 4 (RdT S) v ts) (a:ts.length+wL ts<=1048576):kt Gk [v] [] S (YL 4 TrT S ts):=
 J9 (fun t _=>XX t) h a
end
end
section
open Go Go.RowKit
section
variable {w:World} {K:Value->World->Prop}
theorem qe {a b:Int} {s:ByteArray} {k:Value} (hk:K (.agg #[ax a,ax b,.string s,k,hV]) w):Run Tryz.prog (bZ aB [(0,.agg #[ax a,ax b,.string s,k])]) w K:=by
 refine Run.of (v:=.agg #[ax a,ax b,.string s,k,hV]) (w':=w) ?_ hk;unfold bZ;rw [Sem.run_bind,run_build w aB _ #[ax a,ax b,.string s,k,hV] (by kernel_rfl),Result.andThen_ok];rfl
theorem jp {a b:Int} {s:ByteArray} (hk:K (.agg #[ax a,ax b,.string s,hV]) w):Run Tryz.prog (bZ ab [(0,ax a),(1,ax b),(2,.string s)]) w K:=by
 refine Run.of (v:=.agg #[ax a,ax b,.string s,hV]) (w':=w) ?_ hk;unfold bZ;rw [Sem.run_bind,run_build w ab _ #[ax a,ax b,.string s,hV] (by kernel_rfl),Result.andThen_ok];rfl
end
end
end Go.Proofs.YtellfcpffcipcaaGreatDoor
