/- The variables of terms, on both sides: lists of numbers that grow. -/
import Derived.Test.YtgllldjiaglkcaaGreatDoorZUf1
import Derived.Test.YtgllldjiaglkcaaGreatDoorRows
import Derived.ProofKit
import Derived.ReadAgain
import Derived.Carry
import Derived.Laws.BytesArg
import Derived.Laws.StructEq
import Derived.Laws.Tables
namespace Go.Proofs.YtgllldjiaglkcaaGreatDoor
section
open Go Go.RowKit
attribute [local irreducible] Run CondV aq aK

mutual
def iy:T->List Int->List Int
 | .mk k n _ ks,l=>cU ks (if k=1 then jr l n else l)
def cU:List T->List Int->List Int
 | [],l=>l
 | t::ts,l=>cU ts (iy t l)
end
mutual
def fp:T->List Int->List Int
 | .mk k n _ ks,l=>if k=1 then jr l n else c7 ks l
def c7:List T->List Int->List Int
 | [],l=>l
 | t::ts,l=>c7 ts (fp t l)
end
mutual
theorem G2:∀ (t:T) (l:List Int),((iy t l).length:Int)<=l.length+dF t
 | .mk k n s ks,l=>by
  rw [iy,show dF (T.mk k n s ks)=1+cY ks from rfl];have a:=Kx l n;have:=zc ks (if k=1 then jr l n else l);split at this <;> rename_i hk <;> simp only [hk,if_true,if_false] at this ⊢ <;> omega
theorem zc:∀ (ts:List T) (l:List Int),((cU ts l).length:Int)<=l.length+cY ts
 | [],l=>by simp [cU,cY]
 | t::ts,l=>by
  rw [cU,show cY (t::ts)=dF t+cY ts from rfl];have:=G2 t l;have:=zc ts (iy t l);omega
end
mutual
theorem Aw:∀ (t:T) (l:List Int),((fp t l).length:Int)<=l.length+dF t
 | .mk k n s ks,l=>by
  rw [fp,show dF (T.mk k n s ks)=1+cY ks from rfl];have a:=Kx l n;have:=ef ks;split
  ·omega
  ·have:=II ks l;omega
theorem II:∀ (ts:List T) (l:List Int),((c7 ts l).length:Int)<=l.length+cY ts
 | [],l=>by simp [c7,cY]
 | t::ts,l=>by
  rw [c7,show cY (t::ts)=dF t+cY ts from rfl];have:=Aw t l;have:=II ts (fp t l);omega
end
theorem Cg {t:T} (h:d6 t=true):iC t 30=true:=by
 rw [d6,bM] at h;exact h.1
abbrev IE (S:ae) (r:List Int):Value->List Item->ae->Prop:=fun v I' S'=>I'=[dk v r]/\S'=S

theorem qB:∀ (t:T) (S:ae) (cs:List Value) (v:Value) (l:List Int),RdT S cs t->l.length+dF t<=1000000000->Tri Tryz.prog QK [v,.agg cs.toArray] [dk v l] S (IE S (fp t l)):=by
 refine T.ind fun k n s ks ih S cs v l h hl=>?_;intro w a;obtain ⟨kv,rfl,_,_,hs,J⟩:=RdT.iff.1 h;simp only [T.name,T.kids,T.kind,T.n] at hs J ⊢;have a0:=J.le;simp only [maxLen] at a0;rw [show dF (T.mk k n s ks)=1+cY ks from rfl] at hl;have b4:=ef ks;have B:∀ {w':World} {O:Value} {b:Nat} {o:Obj} (r:List Int),Inv w (bP [dk v l]) [.blk b o,dk O r] S w'->r=fp (.mk k n s ks) l->
   ∃ a1 I' S',Ending.returned O=.returned a1/\Inv w (bP [dk v l]) I' S' w'/\Ext w.heap.size (bP [dk v l]) S S'/\IE S (fp (.mk k n s ks) l) a1 I' S':=by
  intro w' O b o r h1 h2;subst h2;exact ⟨_,_,_,rfl,h1.pick [false,true],Ext.refl _ _ _,rfl,rfl⟩
 refine CZ.2 ?_;dsimp only[CZ,bm];refine bJ a fun b3 w' a=>?_;have a:=a.perm (M:=[.blk b3 (.cells #[.int .i64 k,.int .i64 n,.string s,kv] ab),dk v l]) (List.Perm.swap _ _ _);refine af a 0 rfl aW aG rfl ?_;refine bw ?_;refine aL (fun hk=>?_) (fun hk=>?_)
 ·have hr:jr l n=fp (.mk k n s ks) l:=by rw [fp,ai hk]
  obtain ⟨S1,b2,N,a,q⟩:=Inv.lend (A:=[_]) a;have N:=N.ints;refine ⟨fun i w'=>∃ j:Nat,j<=l.length/\i=.int .i64 j/\vw (l.drop j) n=vw l n/\Inv w (bP [dk v l]) [.blk b3 (.cells #[.int .i64 k,.int .i64 n,.string s,kv] ab)] S1 w',
   fun i _=>l.length - (intOf i).toNat,⟨0,bk _,rfl,rfl,a⟩,?_⟩
  intro t5 _ _ _ _ a5 a6 a7 a8 a9 b0 b1 _ _ _ _ w';rintro ⟨j,hj,rfl,f,a⟩;refine aJ N cA ?_;refine bS ?_;refine aL (fun V=>?_) (fun V=>?_)
  ·have g:j<l.length:=by omega
   have G:vw (l.drop j) n=(decide (n=l[j]) || vw (l.drop (j+1)) n):=EY _ l j g;obtain ⟨b,o,cap,c,E,fz,rfl,hS,hR⟩:=N.at_ g;refine ⟨fun D pR oK jG kZ rF jX rb w_=>Fx D 0 [rb=.slice (some ⟨b,o,none⟩) l.length cap,jX=.int .i64 j,rF=.pointer (some ⟨b,o+j * 1,none⟩),kZ=.int .i64 l[j],jG=.pointer (some ⟨b3,1,none⟩),oK=.int .i64 n,pR=.bool (decide (l[j]=n))]/\Inv w (bP [dk (.slice (some ⟨b,o,none⟩) l.length cap) l]) [.blk b3 (.cells #[.int .i64 k,.int .i64 n,.string s,kv] ab)] S1 w_,⟨Fx.nil _ _,a.draw⟩,⟨?_,?_,?_,?_,?_,?_,?_,trivial⟩,?_⟩;all_goals (intro D bH; intros; rename_i pR oK jG kZ rF jX rb w_ Y; have m:=Y.1; obtain ⟨⟨cI,cJ,cH,cD,cL,cN,cq,_⟩,a⟩:=Y)
   ·exact ⟨m.set 0 rfl,a⟩
   ·exact ⟨m.set 1 rfl,a⟩
   ·obtain rfl:=cI ‹_›;obtain rfl:=cJ ‹_›;refine az cA g ?_;exact ⟨m.set 2 rfl,a⟩
   ·obtain rfl:=cH ‹_›;refine cQ aG (by rw [a.cellS hS]; exact aF hR 0 _ rfl) ?_;exact ⟨m.set 3 rfl,a⟩
   ·refine aw bi ?_;exact ⟨m.set 4 rfl,a⟩
   ·obtain rfl:=cL ‹_›;refine aT a 0 aG rfl rfl ?_;exact ⟨m.set 5 rfl,a⟩
   ·obtain rfl:=cD ‹_›;obtain rfl:=cN ‹_›;refine bw ?_;exact ⟨m.set 6 rfl,a⟩
   obtain ⟨rfl,rfl,rfl,rfl,rfl,rfl,rfl,_⟩:=m.all;clear m cI cJ cH cD cL cN cq;refine aL (fun he=>?_) (fun he=>?_)
   ·refine B l (q _ _ a) ?_;rw [<- hr,jr,ai (by rw [<- f,G,aN he.symm]; rfl)]
   ·refine bC (by omega) ?_;exact ⟨⟨j+1,g,rfl,by rw [<- f,G,ba (fun e=>he e.symm)]; rfl,a⟩,by simp [intOf]; omega⟩
  ·have:j=l.length:=by omega
   subst this;have a4:vw l n=false:=by rw [<- f,eC]; rfl
   have a:Inv w (bP [dk v l]) [.blk b3 (.cells #[.int .i64 k,.int .i64 n,.string s,kv] ab),dk v l] S _:=q _ _ a;refine af a 0 rfl bi aG rfl ?_;refine dB a iV rfl (by omega) (by omega) fun b w' a=>?_;refine dE a 1 (k:=1) [.int .i64 n] iV (by omega) rfl rfl ?_ ?_ (by omega) (by omega) fun O w' a=>?_
   ·intro j u hj;rw [a.cellL (i:=2) rfl]
    match j with
    | 0=>simpa [Value.cells] using hj
    | j+1=>simp at hj
   ·simp [Value.oneCell']
   ·rw [pZ] at a;have a:=a.pick [true,true,false];refine B (b:=b3) (o:=.cells #[.int .i64 k,.int .i64 n,.string s,kv] ab) (l++[n]) ?_ ?_
    ·have e:Item.row O cO 1 (l.length+1) (ints (l++[n]))=dk O (l++[n]):=by simp [dk]
     exact e ▸ a
    ·rw [<- hr,jr,ag (by rw [a4]; decide)]
 ·have hr:c7 ks l=fp (.mk k n s ks) l:=by rw [fp,ag hk]
  refine ⟨fun i t w'=>∃ (j:Nat) (U:List Int),j<=ks.length/\i=.int .i64 j/\c7 (ks.drop j) U=c7 ks l/\U.length+cY (ks.drop j)<=1000000000/\Inv w (bP [dk v l]) [.blk b3 (.cells #[.int .i64 k,.int .i64 n,.string s,kv] ab),dk t U] S w',
   fun i _ _=>ks.length - (intOf i).toNat,⟨0,l,bk _,rfl,rfl,by rw [ym]; omega,a⟩,?_⟩
  intro t6 _ _ t0 _ _ _ _ _ _ _ _ _ _ _ _ w';rintro ⟨j,U,hj,rfl,f,a2,a⟩;refine af a 0 rfl ar al rfl ?_;refine aJ J ah ?_;refine bS ?_;refine aL (fun V=>?_) (fun V=>?_)
  ·have g:j<ks.length:=by omega
   rw [mN ks j g] at a2;rw [dY g,c7] at f;have b5:=ef (ks.drop (j+1));have b6:=Aw ks[j] U;refine af a 0 rfl ar al rfl ?_;refine co a J ah ad g (fun _ _=>RdT.length) fun a3 Z=>?_;refine Run.call (A:=[_]) og nM a (ih _ (bG g) S a3 t0 U Z (by omega)) fun O I' S' w'=>?_;rintro ⟨rfl,rfl⟩ _ a;refine bC (by omega) ?_;exact ⟨⟨j+1,_,g,rfl,f,by omega,a⟩,by simp [intOf]; omega⟩
  ·have:j=ks.length:=by omega
   subst this;rw [eC,c7] at f;exact B U a (by rw [f,hr])

theorem Ih:∀ (t:T) (S:ae) (cs:List Value) (v:Value) (l:List Int),RdT S cs t->l.length+dF t<=1000000000->Tri Tryz.prog Ms [.agg cs.toArray,v] [dk v l] S (IE S (iy t l)):=by
 refine T.ind fun k n s ks ih S cs v l h hl=>?_;intro w a;obtain ⟨kv,rfl,_,_,hs,o⟩:=RdT.iff.1 h;simp only [T.name,T.kids,T.kind,T.n] at hs o ⊢;have D:=o.le;simp only [maxLen] at D;rw [show dF (T.mk k n s ks)=1+cY ks from rfl] at hl;have a4:=ef ks;have a5:=Kx l n;refine xP.2 ?_;dsimp only[xP,bm];refine bJ a fun J w' a=>?_;have a:=a.perm (M:=[.blk J (.cells #[.int .i64 k,.int .i64 n,.string s,kv] ab),dk v l]) (List.Perm.swap _ _ _);refine ⟨fun t w'=>Inv w (bP [dk v l]) [.blk J (.cells #[.int .i64 k,.int .i64 n,.string s,kv] ab),dk t (if k=1 then jr l n else l)] S w',?_,?_⟩
 ·refine ⟨fun t w'=>t=.bool (decide (k=1) && !vw l n)/\Inv w (bP [dk v l]) [.blk J (.cells #[.int .i64 k,.int .i64 n,.string s,kv] ab),dk v l] S w',?_,?_⟩
  ·refine af a 0 rfl aW aG rfl ?_;refine bw ?_;cases h1:decide (k=1)
   ·refine rpG ?_;exact ⟨rfl,a⟩
   ·refine rpG ?_;refine af a 0 rfl bi aG rfl ?_;obtain ⟨S1,a3,Z,a,q⟩:=Inv.lend (A:=[_]) a;refine Run.callPure nK nN a (mq n Z.ints) fun w' a=>?_;refine cw ?_;refine rpG ?_;exact ⟨rfl,q _ _ a⟩
  intro a1 _ _ _ _ _ _ _ _ _ w';rintro ⟨rfl,a⟩;refine aD (fun B=>?_) (fun B=>?_)
  ·simp only [bM,bD,o6] at B;refine af a 0 rfl bi aG rfl ?_;refine dB a iV rfl (by omega) (by omega) fun b w' a=>?_;refine dE a 1 (k:=1) [.int .i64 n] iV (by omega) rfl rfl ?_ ?_ (by omega) (by omega) fun U w' a=>?_
   ·intro j u N;rw [a.cellL (i:=2) rfl]
    match j with
    | 0=>simpa [Value.cells] using N
    | j+1=>simp at N
   ·simp [Value.oneCell']
   ·rw [pZ] at a;have a:=a.pick [true,true,false];rw [ai B.1,jr,ag (by rw [B.2]; decide)];have e:Item.row U cO 1 (l.length+1) (ints (l++[n]))=dk U (l++[n]):=by simp [dk]
    rw [show List.length l+1=l.length+1 from rfl,e] at a;exact a
  ·have:(if k=1 then jr l n else l)=l:=by
    split
    ·rename_i hk
     rw [jr];simp [hk] at B;rw [ai B]
    ·rfl
   rw [this];exact a
 intro t1 _ _ _ _ _ _ _ _ _ _ _ _ _ _ _ w' a;have a0:((if k=1 then jr l n else l).length:Int)+cY ks<=1000000000:=by split <;> omega
 rw [show iy (.mk k n s ks) l=cU ks (if k=1 then jr l n else l) from by rw [iy]];generalize (if k=1 then jr l n else l)=l1 at a a0 ⊢;refine af a 0 rfl ar al rfl ?_;refine aJ o ah ?_;refine ⟨fun i t w'=>∃ (j:Nat) (r:List Int),j<=ks.length/\i=.int .i64 j/\cU (ks.drop j) r=cU ks l1/\r.length+cY (ks.drop j)<=1000000000/\Inv w (bP [dk v l]) [.blk J (.cells #[.int .i64 k,.int .i64 n,.string s,kv] ab),dk t r] S w',
  fun i _ _=>ks.length - (intOf i).toNat,⟨0,l1,bk _,rfl,rfl,by rw [ym]; omega,a⟩,?_⟩
 intro a2 _ t1 _ _ _ _ _ _ _ w';rintro ⟨j,r,N,rfl,f,O,a⟩;refine bS ?_;refine aL (fun V=>?_) (fun V=>?_)
 ·have m:j<ks.length:=by omega
  rw [mN ks j m] at O;rw [dY m,cU] at f;have a6:=ef (ks.drop (j+1));have a7:=G2 ks[j] r;refine co a o ah ad m (fun _ _=>RdT.length) fun Y g=>?_;have G:=g.length;refine aQ a bj fun b6 w' a=>?_;refine au a 2 rfl ad (by simpa using G) rfl (by simpa using g.one) fun w' a=>?_;refine aC a 2 ad rfl (by simpa using G) ?_;have a:=a.pick [true,true,false];refine Run.call (A:=[_]) z9 yY a (ih _ (bG m) S Y t1 r g (by omega)) fun U I' S' w'=>?_;rintro ⟨rfl,rfl⟩ _ a;refine bC (by omega) ?_;exact ⟨⟨j+1,_,m,rfl,f,by omega,a⟩,by simp [intOf]; omega⟩
 ·have:j=ks.length:=by omega
  subst this;rw [eC,cU] at f;subst f;exact ⟨_,_,_,rfl,a.pick [false,true],Ext.refl _ _ _,rfl,rfl⟩
theorem qL {ts:List T} {S:ae} {v:Value} (h:RdSl S 4 (RdT S) v ts) (hl:cY ts<=1000000000):Tri Tryz.prog PD [v] [] S (IE S (cU ts [])):=by
 intro w a;have o:=h.le;simp only [maxLen] at o;refine BU.2 ?_;dsimp only[BU,aO];refine aJ h ah ?_;refine ⟨fun i t w'=>∃ (j:Nat) (m:List Int),j<=ts.length/\i=.int .i64 j/\cU (ts.drop j) m=cU ts []/\m.length+cY (ts.drop j)<=1000000000/\Inv w [] [dk t m] S w',
  fun i _ _=>ts.length - (intOf i).toNat,⟨0,[],bk _,rfl,rfl,by simpa using hl,a.rowNil cO 1⟩,?_⟩
 intro N _ G _ _ _ _ _ _ _ w';rintro ⟨j,m,O,rfl,f,r,a⟩;refine bS ?_;refine aL (fun B=>?_) (fun B=>?_)
 ·have l:j<ts.length:=by omega
  rw [mN ts j l] at r;rw [dY l,cU] at f;have J:=ef (ts.drop (j+1));have M:=G2 ts[j] m;refine co a h ah ad l (fun _ _=>RdT.length) fun D g=>?_;have q:=g.length;refine aQ a bj fun U w' a=>?_;refine au a 1 rfl ad (by simpa using q) rfl (by simpa using g.one) fun w' a=>?_;refine aC a 1 ad rfl (by simpa using q) ?_;have a:=a.pick [true,false];refine Run.call (A:=[]) z9 yY a (Ih _ S D G m g (by omega)) fun V I' S' w'=>?_;rintro ⟨rfl,rfl⟩ _ a;refine bC (by omega) ?_;exact ⟨⟨j+1,_,l,rfl,f,by omega,a⟩,by simp [intOf]; omega⟩
 ·have:j=ts.length:=by omega
  subst this;rw [eC,cU] at f;subst f;exact ⟨_,_,_,rfl,a,Ext.refl _ _ _,rfl,rfl⟩
end
section
open Go Go.RowKit
attribute [local irreducible] Run CondV aq aK

section
variable {P:Program} {w w0:World} {X:List Nat} {L:List Item} {S:ae} {K:Value->Value->Value->World->Prop}
theorem Lf {α:Type} {T Tf U ty g a E:TypeId} {k f d:Nat} {R:List Value->α->Prop} {v:Value} {xs:List α} (t:Inv w0 X L S w) (h:RdSl S k R v xs) (B:dl P T=some (E,k)) (hf:bT P Tf f=some d) (D:j7 P U=true)
  {i:Nat} (r:i<xs.length) (hk:∀ cs,R cs xs[i]->∃ u,cs[d]?=some u/\K (elP v (i * k)) (elQ v (i * k) d) u w) :
  Run P (sOp (.indexAddr T (.const v) (.const (.int .i64 i))) ty) w fun p w'=>Run P (sOp (.fieldAddr Tf (.const p) f) g) w' fun q l=>Run P (sOp (.load U (.const q)) a) l (K p q):=by
 obtain ⟨b,o,cap,c,E',M,rfl,G,hR⟩:=h.at_ r;obtain ⟨u,m,J⟩:=hk _ hR;refine az B r ?_;refine aw hf ?_;refine cQ D ?_ J;rw [t.cellS G];exact aF rfl d u m
end
end
section
open Go Go.ChangeShapes Go.WideShapes Go.ChangeAt Go.RowKit

def SD (W:World):ae:=fun b=>W.heap[b]?
section
variable {H:Type} {enc:TypeId × Value->H} {P:Program} {W:World} {sp:Nat->Bool} {held:Bool}
theorem Tu {a:Addr} {v:Value} (h:W.cell? a=some v):∃ b o c E f,a=⟨b,o,none⟩/\W.heap[b]?=some (.cells c E f)/\c[o]?=some v:=by
 obtain ⟨b,o,s⟩:=a;simp only [World.cell?] at h;split at h
 ·rename_i c E f g
  cases s with
  | none=>exact ⟨b,o,c,E,f,rfl,g,by simpa using h⟩
  | some s=>simp at h
 ·cases h
theorem VQ {b o k:Nat} {cs:List Value} {c:Array Value} {E:TypeId} {f:Nat × Nat} (g:W.heap[b]?=some (.cells c E f)) (h:W.cells? 0 ⟨b,o,none⟩ k=some cs):aX c o k=cs:=by
 unfold World.cells? at h;rw [ai (bk _)] at h;have hl:cs.length=k:=by simpa using mapM_some_length h
 apply vO;intro i;rw [aX,wh];by_cases a:i<k
 ·rw [ai a,z6];have:=mapM_some_get h i i (by simp [a]);rw [<- this,om];simp [World.cell?,g]
 ·rw [ag a,Mi (by omega)]
theorem BR {α:Type} (p:Nat->α->Prop):∀ n:Nat,(∀ i,i<n->∃ t,p i t)->∃ xs:List α,xs.length=n/\∀ i (h:i<xs.length),p i xs[i]
 | 0,_=>⟨[],rfl,fun i h=>by simp at h⟩
 | n+1,h=>by
  obtain ⟨xs,hl,f⟩:=BR p n fun i a=>h i (by omega);obtain ⟨t,g⟩:=h n (by omega);refine ⟨xs++[t],by simp [hl],fun i a=>?_⟩;by_cases e:i<xs.length
  ·rw [fA e];exact f i e
  ·have:i=xs.length:=by simp at a; omega
   subst this;simp only [eZ (aS _),ey,lc];rw [hl];exact g
theorem Ce {T e:TypeId} {k:Nat} (h:dl P T=some (e,k)):P.underlying T=some (.slice e)/\P.cellsOf e=k:=by
 unfold dl at h;split at h
 ·rename_i l f
  rw [P5] at h;obtain ⟨i,g,a⟩:=h;simp only [cE] at a;obtain ⟨rfl,rfl⟩:=a;exact ⟨f,by simp [Program.cellsOf,g]⟩
 ·cases h
theorem W0 {α:Type} {R:List Value->α->Prop} {T e:TypeId} {k fuel:Nat} {v:Value} {x:DataW H × List MemPlace} (Z:dl P T=some (e,k)) (q:0<k)
  (h:DataW.trod enc P W 0 sp held fuel T [v]=some x) (r:∀ n cs y,fuel=n+1->DataW.trod enc P W 0 sp held n e cs=some y->∃ t:α,R cs t):∃ xs,RdSl (SD W) k R v xs:=by
 obtain ⟨D,hk⟩:=Ce Z;rcases DataW.trod_slice D h with ⟨f,_⟩|⟨a,len,cap,U,rest,n,hf,f,_,_,hl,hc,Y,hE,_⟩
 ·simp only [dK,gL] at f;subst f;exact ⟨[],none,0,rfl,aS _,bk _,.inl rfl⟩
 ·simp only [dK,gL] at f;subst f;have N:∀ i,i<len->∃ t:α,∃ cs,W.cells? 0 (a.add (i * k)) k=some cs/\R cs t:=by
   intro i B;have:=hE i B;rw [hk,ew (by omega),Option.bind_eq_some_iff] at this;obtain ⟨cs,g,m⟩:=this;obtain ⟨t,ht⟩:=r n cs _ hf m;exact ⟨t,cs,g,ht⟩
  obtain ⟨xs,G,l⟩:=BR _ len N;subst G;refine ⟨xs,some a,cap,rfl,hl,hc,?_⟩;by_cases h0:xs.length=0
  ·exact .inl (gF h0)
  ·obtain ⟨J,g,_⟩:=l 0 (by omega);have e0:a.add (0 * k)=a:=by rw [AZ]; simp [Addr.add]
   rw [e0] at g;have O:∃ u,W.cell? a=some u:=by
    unfold World.cells? at g;rw [ai (bk _)] at g;have a0:J.length=k:=by simpa using mapM_some_length g
    have:=mapM_some_get g 0 0 (by simp [q]);rw [ew (by omega)] at this;have e1:a.add 0=a:=by simp [Addr.add]
    rw [e1] at this;exact ⟨_,this⟩
   obtain ⟨u,M⟩:=O;obtain ⟨b,o,c,E,fz,rfl,V,_⟩:=Tu M;refine .inr ⟨b,o,c,E,fz,rfl,V,fun i B=>?_⟩;obtain ⟨cs,m,hR⟩:=l i B;rw [om] at m;rw [VQ V m];exact hR
end

section
variable {H:Type} {enc:TypeId × Value->H} {W:World} {sp:Nat->Bool} {held:Bool}
theorem four {cs:List Value} (h:cs.length=4):∃ a b c d,cs=[a,b,c,d]:=by
 match cs,h with
 | [a,b,c,d],_=>exact ⟨a,b,c,d,rfl⟩
end

theorem Inv.entry (W:World):Inv W [] [] (SD W) W:=Inv.start (L:=[]) (by simp) (by simp [bP]) fun b o a=>⟨a,by simp [bP]⟩
theorem Inv.same {W W':World} {L:List Item} {S:ae} (h:Inv W [] L S W') (b:Nat) (a:b<W.heap.size):W'.heap[b]?=W.heap[b]?:=h.old b a (by simp)
theorem TA {W W':World} {a:MemPlace->Prop} (f:W'.os=W.os) (g:W'.output=W.output) (h:∀ b,b<W.heap.size->W'.heap[b]?=W.heap[b]?):W.keptBut W' a:=by
 refine ⟨f,g,fun i l=>?_⟩;rw [h i l];split
 ·rename_i e1 e2
  rw [e1] at e2;simp only [aY,Obj.cells.injEq] at e2;obtain ⟨rfl,rfl,rfl⟩:=e2;exact ⟨rfl,rfl,rfl,fun _ _=>rfl⟩
 ·rename_i e1 e2
  rw [e1] at e2;simp only [aY,Obj.map.injEq] at e2;obtain ⟨rfl,rfl⟩:=e2;exact .inr ⟨rfl,rfl⟩
 ·rfl
end
section
open Go Go.RowKit
attribute [local irreducible] Run CondV aq aK
end
section
open Go Go.RowKit
attribute [local irreducible] Run CondV aq aK

mutual
def eqT:T->T->Bool
 | .mk k n s ks,.mk k' n' s' ks'=>decide (k=k') && (decide (n=n') && (decide (s=s') && eqL ks ks'))
def eqL:List T->List T->Bool
 | [],[]=>true
 | t::ts,u::us=>eqT t u && eqL ts us
 | _,_=>false
end
mutual
theorem Ed:∀ a b:T,eqT a b=true↔a=b
 | .mk k n s ks,.mk k' n' s' ks'=>by
  simp only [eqT,bM,bD,xZ ks ks',T.mk.injEq]
theorem xZ:∀ a b:List T,eqL a b=true↔a=b
 | [],[]=>by simp [eqL]
 | [],_::_=>by simp [eqL]
 | _::_,[]=>by simp [eqL]
 | t::ts,u::us=>by
  simp only [eqL,bM,Ed t u,xZ ts us,dK]
end
theorem Xw:∀ {a b:List T},a.length≠b.length->eqL a b=false:=by
 intro a b h;rw [<- Ok,xZ];rintro rfl;exact h rfl
theorem Ax {a b c d e:Value}:∀ (j:Nat) (v:Value),([a,b,c,d]:List Value)[j]?=some v->(#[a,b,c,d,e]:Array Value)[0+j]?=some v
 | 0,_,h|1,_,h|2,_,h|3,_,h=>h
 | j+4,_,h=>by simp at h
end
section
open Go Go.RowKit
attribute [local irreducible] Run CondV aq aK
end
section
open Go Go.RowKit
section
variable {P:Program} {w w0:World} {X:List Nat} {L:List Item} {S:ae} {K:Value->World->Prop}
attribute [local irreducible] Run CondV aq aK
theorem XV {T:TypeId} {f g:Bool} {a b:Int} (h:b≠0) (hk:K (.int .i64 (a.tmod b)) w):Run P (c9 .rem T f g (.int .i64 a) (.int .i64 b)) w K:=
 Run.of (by simp [c9,c8,binOp,Op.intDiv,h]) hk
theorem aaw {T:TypeId} {f g:Bool} {a b:Int} (h:b≠0) (i:-9223372036854775808<=a.tdiv b/\a.tdiv b<=9223372036854775807) (hk:K (.int .i64 (a.tdiv b)) w):Run P (c9 .quo T f g (.int .i64 a) (.int .i64 b)) w K:=
 Run.of (by simp [c9,c8,binOp,Op.intDiv,h,IntWalk.i64_in _ i]) hk
end

section
attribute [local irreducible] Run CondV aq aK
end
end
section
open Go Go.RowKit

theorem Part.upd {α:Type} {k:Nat} {R:bh->List Value->α->Prop} {c a:Array Value} {Ls:List bh} {xs:List α} (h:Part k R c Ls xs) {i:Nat} {L':bh} {x:α} (g:R L' (aX a (i * k) k) x)
  (f:∀ j,j≠i->aX a (j * k) k=aX c (j * k) k):Part k R a (Ls.set i L') (xs.set i x):=by
 refine ⟨by simp [h.1],fun j l m=>?_⟩;by_cases e:i=j
 ·subst e;rw [Oi,Oi];exact g
 ·rw [R6 e,R6 e,f j fun o=>e o.symm];exact h.2 j (by simpa using l) (by simpa using m)
section
attribute [local irreducible] Run CondV aq aK
end
end
section
open Go Go.RowKit

section
attribute [local irreducible] Run CondV aq aK
theorem TrC.parts {L:bh} {cs:List Value} {c:C} (h:TrC L cs c):∃ kv ks L1 L2,cs=[.int .i64 c.head.kind,.int .i64 c.head.n,.string c.head.name,kv,ks]/\L=L1++L2/\TrSl 4 TrT L1 kv c.head.kids/\TrSl 4 TrT L2 ks c.body:=by
 obtain ⟨hd,ks,L1,L2,rfl,rfl,f,g⟩:=h;obtain ⟨kv,rfl,_,_,_,a⟩:=TrT.iff.1 f;exact ⟨kv,ks,L1,L2,rfl,rfl,a,g⟩
end
end
section
open Go Go.RowKit

section
attribute [local irreducible] Run CondV aq aK
end
end
section
open Go Go.RowKit

theorem LN:Tryz.prog.underlying dA=some (.struct (Tryz.prog.fieldsOf dA)):=by kernel_rfl
theorem P8:Tryz.prog.stoodInHeld dA=false:=by kernel_rfl
theorem N1:Tryz.prog.eqGuardType Tryz.prog.depth dA=false:=by kernel_rfl
theorem ql {P:Program} {w:World} {T:TypeId} {cs:Array Value} {a:Nat} {v:Value} (h:j7 P T=true) (f:cs[a]?=some v):(part T cs a).run P w=.ok v w:=by
 simp [part,(BG (w:=w) h).1,f]
theorem Ur {w:World} (s a:ByteArray) (n n':Int) :
  (Op.equalIn 10000 dA (.agg #[.string s,.int .i64 n]) (.agg #[.string a,.int .i64 n'])).run Tryz.prog w=.ok (decide (s=a) && decide (n=n')) w:=by
 rw [show (10000:Nat)=9999+1 from rfl,run_equalIn_struct w 9999 dA _ _ LN P8];have hf:(Tryz.prog.fieldsOf dA).toList=[(Tryz.prog.fieldsOf dA)[0]!,(Tryz.prog.fieldsOf dA)[1]!]:=by kernel_rfl
 have f:((Tryz.prog.fieldsOf dA)[0]!).type=g9:=by kernel_rfl
 have g:((Tryz.prog.fieldsOf dA)[1]!).type=cO:=by kernel_rfl
 have h:((Tryz.prog.fieldsOf dA)[0]!).offset=0:=by kernel_rfl
 have i:((Tryz.prog.fieldsOf dA)[1]!).offset=1:=by kernel_rfl
 have l:((Tryz.prog.fieldsOf dA)[0]!).name≠"_" := by decide +kernel
 have m:((Tryz.prog.fieldsOf dA)[1]!).name≠"_" := by decide +kernel
 rw [hf];have o:(Op.equalIn (9998+1) g9 (.string s) (.string a)).run Tryz.prog w=.ok (decide (s=a)) w:=by
  rw [run_equalIn_string w 9998 g9 s a aZ,xD]
 have e1:(Op.equalIn (9998+1) cO (.int .i64 n) (.int .i64 n')).run Tryz.prog w=.ok (decide (n=n')) w:=by
  rw [run_equalIn_int w 9998 cO .i64 .i64 n n' iK]; rfl
 rw [show (9999:Nat)=9998+1 from rfl];generalize q:(Tryz.prog.fieldsOf dA)[0]! = g0 at *;generalize r:(Tryz.prog.fieldsOf dA)[1]! = g1 at *;simp only [Op.eqFields,l,m,ne_eq,Pg,if_true,Sem.run_bind,f,g,h,i];rw [ql be (v:=.string s) rfl,Result.andThen_ok,ql be (v:=.string a) rfl,Result.andThen_ok,o,Result.andThen_ok];cases decide (s=a) with
 | false=>rfl
 | true=>
  simp only [Bool.not_true,Ha,if_false,Sem.run_bind];rw [ql aG (v:=.int .i64 n) rfl,Result.andThen_ok,ql aG (v:=.int .i64 n') rfl,Result.andThen_ok,e1,Result.andThen_ok];cases decide (n=n') with
  | false=>rfl
  | true=>rfl
section
variable {w:World} {K:Value->World->Prop}
attribute [local irreducible] Run
theorem TV {f g:Bool} {s a:ByteArray} {n n':Int} :
  (c9 .eql dA f g (.agg #[.string s,.int .i64 n]) (.agg #[.string a,.int .i64 n'])).run Tryz.prog w=.ok (.value (.bool (decide (s=a) && decide (n=n')))) w:=by
 unfold c9;rw [Sem.run_bind,run_eqGuard_agg w .eql dA _ _ _ _ N1,Result.andThen_ok,Sem.run_bind,run_eql_struct,Ur,Result.andThen_ok,Result.andThen_ok];rfl
theorem Iq {s:ByteArray} {n:Int}:(cR dA [(0,.string s),(1,.int .i64 n)]).run Tryz.prog w=.ok (.value (.agg #[.string s,.int .i64 n])) w:=by
 unfold cR;rw [Sem.run_bind,run_build w dA _ #[.string s,.int .i64 n] (by kernel_rfl),Result.andThen_ok];rfl
theorem Yv {f g:Bool} {s a:ByteArray} {n n':Int} (hk:K (.bool (decide (s=a) && decide (n=n'))) w):Run Tryz.prog (c9 .eql dA f g (.agg #[.string s,.int .i64 n]) (.agg #[.string a,.int .i64 n'])) w K:=
 Run.of TV hk
theorem NH {s:ByteArray} {n:Int} (hk:K (.agg #[.string s,.int .i64 n]) w):Run Tryz.prog (cR dA [(0,.string s),(1,.int .i64 n)]) w K:=
 Run.of Iq hk
end

attribute [local irreducible] Run CondV aq aK
structure Pd where
 name:ByteArray
 arity:Int
deriving DecidableEq
def Pd.cells (x:Pd):List Value:=[.string x.name,.int .i64 x.arity]
def bN (t:T):Pd:=⟨t.name,t.kids.length⟩
def gQ (x y:Pd):Bool:=decide (x.name=y.name) && decide (x.arity=y.arity)
theorem pf (x y:Pd):gQ x y=decide (x=y):=by
 obtain ⟨a,b⟩:=x;obtain ⟨c,d⟩:=y;rw [gQ,nZ];simp
theorem l7 {t:T} {S:ae} {cs:List Value} (h:RdT S cs t):Pure Tryz.prog Ww [.agg cs.toArray] S (.agg (bN t).cells.toArray):=by
 intro w a;obtain ⟨kv,rfl,_,_,g,f⟩:=RdT.iff.1 h;obtain ⟨k,n,s,ks⟩:=t;simp only [T.name,T.kids,T.kind,T.n] at g f ⊢;refine IO.2 ?_;dsimp only[IO,aO];refine bJ a fun i w' a=>?_;refine aQ a U0 fun l w' a=>?_;refine af a 0 rfl bl be rfl ?_;refine af a 0 rfl ar al rfl ?_;refine aJ f ah ?_;refine NH ?_;refine au a 1 rfl Eu rfl rfl (by simp [Value.oneCell']) fun w' a=>?_;refine bB a 1 Eu rfl rfl ?_;exact done a rfl
def dT (f:C->Bool):List C->Nat->List Int
 | [],_=>[]
 | c::cs,k=>if f c=true then (k:Int)::dT f cs (k+1) else dT f cs (k+1)
theorem mM (f:C->Bool):∀ (p:List C) (k:Nat) (n:Int),n∈dT f p k->∃ i:Nat,(k:Int)<=n/\n=k+i/\∃ h:i<p.length,f p[i]=true
 | [],k,n,h=>by simp [dT] at h
 | c::cs,k,n,h=>by
  have a:n∈dT f cs (k+1)->∃ i:Nat,(k:Int)<=n/\n=k+i/\∃ h:i<(c::cs).length,f (c::cs)[i]=true:=by
   intro h;obtain ⟨i,m,o,g,l⟩:=mM f cs (k+1) n h;exact ⟨i+1,by omega,by omega,by simpa using g,by simpa using l⟩
  rw [dT] at h;split at h
  ·rcases bY.1 h with rfl|h
   ·exact ⟨0,by omega,by omega,by simp,by simpa using ‹f c=true›⟩
   ·exact a h
  ·exact a h
theorem ja (f:C->Bool):∀ (p:List C) (k:Nat),(dT f p k).length<=p.length
 | [],k=>by simp [dT]
 | c::cs,k=>by
  have:=ja f cs (k+1);rw [dT];split <;> simp <;> omega
end
section
open Go Go.RowKit
attribute [local irreducible] Run CondV aq aK

theorem FT (f:C->Bool) (p:List C) (k:Nat) (h:k<p.length) (l:List Int):(if f p[k]=true then l++[(k:Int)] else l)++dT f (p.drop (k+1)) (k+1)=l++dT f (p.drop k) k:=by
 rw [dY h,dT];split
 ·rw [dx]; rfl
 ·rfl

theorem kl {p:List C} {S:ae} {v:Value} (x:Pd) (h:RdSl S 5 (RdC S) v p) (hp:p.length<=2000000):Tri Tryz.prog FV [v,.agg x.cells.toArray] [] S (IE S (dT (fun c=>gQ (bN c.head) x) p 0)):=by
 intro w f;obtain ⟨xs,o⟩:=x;refine rP.2 ?_;dsimp only[rP,bm];refine bJ f fun b3 w' f=>?_;refine aJ h bf ?_;refine ⟨fun i t w'=>∃ (k:Nat) (l:List Int),k<=p.length/\i=.int .i64 k/\l++dT (fun c=>gQ (bN c.head) ⟨xs,o⟩) (p.drop k) k=dT (fun c=>gQ (bN c.head) ⟨xs,o⟩) p 0/\l.length<=k/\
   Inv w [] [.blk b3 (.cells #[.string xs,.int .i64 o] dA),dk t l] S w',fun i _ _=>p.length - (intOf i).toNat,⟨0,[],bk _,rfl,rfl,aS _,f.rowNil cO 1⟩,?_⟩
 intro a0 _ J _ _ _ _ a1 a2 a3 a4 a5 _ _ _ _ _ _ w';rintro ⟨k,l,hk,rfl,m,hl,f⟩;refine bS ?_;refine aL (fun N=>?_) (fun N=>?_)
 ·have q:k<p.length:=by omega
  refine ⟨fun t w'=>Inv w [] [.blk b3 (.cells #[.string xs,.int .i64 o] dA),dk t (if gQ (bN p[k].head) ⟨xs,o⟩=true then l++[(k:Int)] else l)] S w',?_,?_⟩
  ·refine co f h bf aH q (fun _ _=>RdC.length) fun cs O=>?_;obtain ⟨hd,ks,rfl,h1,h2⟩:=O;have Z:=h1;obtain ⟨kv,rfl,_,_,hs,Y⟩:=RdT.iff.1 h1;have G:kv.oneCell'=true/\ks.oneCell'=true:=by
    obtain ⟨a,cap,rfl,_⟩:=Y;obtain ⟨a,cap,rfl,_⟩:=h2;exact ⟨rfl,rfl⟩
   refine aQ f cX fun U w' f=>?_;refine au f 2 rfl aH rfl rfl (by
    intro u hu;have r:u∈([.int .i64 p[k].head.kind,.int .i64 p[k].head.n,.string p[k].head.name,kv,ks]:List Value):=hu;simp at r;rcases r with rfl|rfl|rfl|rfl|rfl <;> first|rfl|exact G.1|exact G.2) fun w' f=>?_
   have f:Inv w [] [.blk b3 (.cells #[.string xs,.int .i64 o] dA),dk J l,.blk U (.cells #[.int .i64 p[k].head.kind,.int .i64 p[k].head.n,.string p[k].head.name,kv,ks] ac)] S w':=f;refine ⟨fun D kZ rF jX rb wt M=>Fx D 0 [wt=.pointer (some ⟨U,0,none⟩),rb=.agg #[.int .i64 p[k].head.kind,.int .i64 p[k].head.n,.string p[k].head.name,kv],jX=.agg #[.string p[k].head.name,.int .i64 p[k].head.kids.length],rF=.agg #[.string xs,.int .i64 o],kZ=.bool (gQ (bN p[k].head) ⟨xs,o⟩)]/\Inv w [] [.blk b3 (.cells #[.string xs,.int .i64 o] dA),dk J l,.blk U (.cells #[.int .i64 p[k].head.kind,.int .i64 p[k].head.n,.string p[k].head.name,kv,ks] ac)] S M,⟨Fx.nil _ _,f.draw⟩,⟨?_,?_,?_,?_,?_,trivial⟩,?_⟩;all_goals (intro D bH; intros; rename_i kZ rF jX rb wt M B; have g:=B.1; obtain ⟨⟨cI,cJ,cH,cD,cL,_⟩,f⟩:=B)
   ·refine aw bO ?_;exact ⟨g.set 0 rfl,f⟩
   ·obtain rfl:=cI ‹_›;refine dC f 2 [.int .i64 p[k].head.kind,.int .i64 p[k].head.n,.string p[k].head.name,kv] ad rfl rfl Ax ?_;exact ⟨g.set 1 rfl,f⟩
   ·obtain rfl:=cJ ‹_›;refine Run.callPure uW uO f (l7 Z) fun M f=>?_;exact ⟨g.set 2 rfl,f⟩
   ·refine aC f 0 Eu rfl rfl ?_;exact ⟨g.set 3 rfl,f⟩
   ·obtain rfl:=cH ‹_›;obtain rfl:=cD ‹_›;refine Yv ?_;exact ⟨g.set 4 rfl,f⟩
   obtain ⟨rfl,rfl,rfl,rfl,rfl,_⟩:=g.all;clear g cI cJ cH cD cL;refine aD (fun V=>?_) (fun V=>?_)
   ·refine dB f iV rfl (by omega) (by omega) fun b w' f=>?_;refine dE f 1 (k:=1) [.int .i64 k] iV (by omega) rfl rfl ?_ ?_ (by omega) (by omega) fun v' w' f=>?_
    ·intro j u hj;rw [f.cellL (i:=3) rfl]
     match j with
     | 0=>simpa [Value.cells] using hj
     | j+1=>simp at hj
    ·simp [Value.oneCell']
    ·rw [pZ] at f;have f:=f.pick [true,true,false,false];rw [ai V];have e:Item.row v' cO 1 (l.length+1) (ints (l++[(k:Int)]))=dk v' (l++[(k:Int)]):=by simp [dk]
     rw [show List.length l+1=l.length+1 from rfl,e] at f;exact f
   ·rw [ag (by rw [V]; decide)];exact f.pick [true,true,false]
  intro J _ _ _ _ _ _ _ _ _ _ _ _ _ _ w' f;refine bC (by omega) ?_;refine ⟨⟨k+1,_,q,rfl,?_,?_,f⟩,by simp [intOf]; omega⟩
  ·rw [FT (fun c=>gQ (bN c.head) ⟨xs,o⟩) p k q l,m]
  ·split
   ·simp; omega
   ·omega
 ·have:k=p.length:=by omega
  subst this;rw [eC,dT,bV] at m;subst m;exact ⟨_,_,_,rfl,f.pick [false,true],Ext.refl _ _ _,rfl,rfl⟩

theorem Dj {p:List C} {g:T} {S:ae} {v:Value} {cs:List Value} (h:RdSl S 5 (RdC S) v p) (hg:RdT S cs g) (hp:p.length<=2000000) :
  Tri Tryz.prog Ti [v,.agg cs.toArray] [] S (IE S (dT (fun c=>gQ (bN c.head) (bN g)) p 0)):=by
 intro w f;obtain ⟨gv,rfl,_,_,a3,a0⟩:=RdT.iff.1 hg;obtain ⟨J,M,gs,q⟩:=g;simp only [T.name,T.kids,T.kind,T.n] at a3 a0 ⊢;refine Gc.2 ?_;dsimp only[Gc,bm];refine bJ f fun b3 w' f=>?_;refine ei f iV fun v0 w' f=>?_;refine ⟨fun i t w'=>∃ (k:Nat) (l:List Int),k<=p.length/\i=.int .i64 k/\l++dT (fun c=>gQ (bN c.head) (bN (.mk J M gs q))) (p.drop k) k=dT (fun c=>gQ (bN c.head) (bN (.mk J M gs q))) p 0/\l.length<=k/\
   Inv w [] [.blk b3 (.cells #[.int .i64 J,.int .i64 M,.string gs,gv] ab),dk t l] S w',fun i _ _=>p.length - (intOf i).toNat,⟨0,[],bk _,rfl,rfl,aS _,f⟩,?_⟩
 intro t6 _ _ t5 _ _ _ _ a5 a6 a7 a8 a9 b0 b1 b2 b4 b5 b6 b7 b8 b9 c0 c1 c2 c3 c4 c5 c6 c7 _ _ _ _ w';rintro ⟨k,l,hk,rfl,B,hl,f⟩;refine aJ h bf ?_;refine bS ?_;refine aL (fun a2=>?_) (fun a2=>?_)
 ·have r:k<p.length:=by omega
  refine ⟨fun t w'=>Inv w [] [.blk b3 (.cells #[.int .i64 J,.int .i64 M,.string gs,gv] ab),dk t (if gQ (bN p[k].head) (bN (.mk J M gs q))=true then l++[(k:Int)] else l)] S w',?_,?_⟩
  ·obtain ⟨b,o,cap,c,E,fz,rfl,hS,hR⟩:=h.at_ r;obtain ⟨hd,c8,N,h1,h2⟩:=hR;obtain ⟨kv,rfl,_,_,c9,a4⟩:=RdT.iff.1 h1;have a1:gQ (bN p[k].head) (bN (.mk J M gs q))=(decide (p[k].head.name=gs) && decide ((p[k].head.kids.length:Int)=q.length)):=rfl;cases hq:decide (p[k].head.name=gs)
   ·have hf:gQ (bN p[k].head) (bN (.mk J M gs q))=false:=by rw [a1,hq]; rfl
    refine ⟨fun D U Ab AE CS V Y Z jv pn kV fN lP r4 pR oK jG kZ rF jX rb wt Hi w_=>Fx D 0 [Hi=.slice (some ⟨b,o,none⟩) p.length cap,wt=.int .i64 k,rb=.pointer (some ⟨b,o+k * 5,none⟩),jX=.pointer (some ⟨b,o+k * 5,none⟩),rF=.pointer (some ⟨b,o+k * 5+2,none⟩),kZ=.string p[k].head.name,jG=.pointer (some ⟨b3,2,none⟩),oK=.string gs,pR=.bool false,r4=.bool false,lP=undef,fN=undef,kV=undef,pn=undef,jv=undef,Z=undef,Y=undef,V=undef,CS=undef,AE=undef,Ab=undef,U=.bool false]/\Inv w [] [.blk b3 (.cells #[.int .i64 J,.int .i64 M,.string gs,gv] ab),dk t5 l] S w_,⟨Fx.nil _ _,f.draw⟩,⟨?_,?_,?_,?_,?_,?_,?_,?_,?_,?_,?_,?_,?_,?_,?_,?_,?_,?_,?_,?_,?_,?_,trivial⟩,?_⟩;all_goals (intro D bH; intros; rename_i U Ab AE CS V Y Z jv pn kV fN lP r4 pR oK jG kZ rF jX rb wt Hi w_ G; have a:=G.1; obtain ⟨⟨cI,cJ,cH,cD,cL,cN,cq,dg,dG,m,cT,dn,dN,fE,gy,gP,iH,kw,lQ,ip,oW,sg,_⟩,f⟩:=G)
    ·exact ⟨a.set 0 rfl,f⟩
    ·exact ⟨a.set 1 rfl,f⟩
    ·obtain rfl:=cI ‹_›;obtain rfl:=cJ ‹_›;refine az bf r ?_;exact ⟨a.set 2 rfl,f⟩
    ·obtain rfl:=cH ‹_›;refine aw bO ?_;exact ⟨a.set 3 rfl,f⟩
    ·obtain rfl:=cD ‹_›;refine aw bl ?_;exact ⟨a.set 4 rfl,f⟩
    ·obtain rfl:=cL ‹_›;refine cQ be (by rw [f.cellS hS]; exact aF N 2 _ rfl) ?_;exact ⟨a.set 5 rfl,f⟩
    ·refine aw bl ?_;exact ⟨a.set 6 rfl,f⟩
    ·obtain rfl:=cq ‹_›;refine aT f 0 be rfl rfl ?_;exact ⟨a.set 7 rfl,f⟩
    ·obtain rfl:=cN ‹_›;obtain rfl:=dg ‹_›;refine bQ ?_; rw [hq];exact ⟨a.set 8 rfl,f⟩
    ·obtain rfl:=dG ‹_›;exact ⟨a.set 9 rfl,f⟩
    ·obtain rfl:=m ‹_›;refine cG (c:=false) (b:=true) (by decide) ?_;exact ⟨a.set 10 rfl,f⟩
    ·obtain rfl:=m ‹_›;refine cG (c:=false) (b:=true) (by decide) ?_;exact ⟨a.set 11 rfl,f⟩
    ·obtain rfl:=cT ‹_›;obtain rfl:=dn ‹_›;obtain rfl:=m ‹_›;refine cG (c:=false) (b:=true) (by decide) ?_;exact ⟨a.set 12 rfl,f⟩
    ·obtain rfl:=dN ‹_›;obtain rfl:=m ‹_›;refine cG (c:=false) (b:=true) (by decide) ?_;exact ⟨a.set 13 rfl,f⟩
    ·obtain rfl:=fE ‹_›;obtain rfl:=m ‹_›;refine cG (c:=false) (b:=true) (by decide) ?_;exact ⟨a.set 14 rfl,f⟩
    ·obtain rfl:=gy ‹_›;obtain rfl:=m ‹_›;refine cG (c:=false) (b:=true) (by decide) ?_;exact ⟨a.set 15 rfl,f⟩
    ·obtain rfl:=gP ‹_›;obtain rfl:=m ‹_›;refine cG (c:=false) (b:=true) (by decide) ?_;exact ⟨a.set 16 rfl,f⟩
    ·obtain rfl:=m ‹_›;refine cG (c:=false) (b:=true) (by decide) ?_;exact ⟨a.set 17 rfl,f⟩
    ·obtain rfl:=kw ‹_›;obtain rfl:=m ‹_›;refine cG (c:=false) (b:=true) (by decide) ?_;exact ⟨a.set 18 rfl,f⟩
    ·obtain rfl:=lQ ‹_›;obtain rfl:=m ‹_›;refine cG (c:=false) (b:=true) (by decide) ?_;exact ⟨a.set 19 rfl,f⟩
    ·obtain rfl:=iH ‹_›;obtain rfl:=ip ‹_›;obtain rfl:=m ‹_›;refine cG (c:=false) (b:=true) (by decide) ?_;exact ⟨a.set 20 rfl,f⟩
    ·obtain rfl:=m ‹_›;obtain rfl:=oW ‹_›;refine qU ?_;exact ⟨a.set 21 rfl,f⟩
    obtain ⟨rfl,rfl,rfl,rfl,rfl,rfl,rfl,rfl,rfl,rfl,rfl,rfl,rfl,rfl,rfl,rfl,rfl,rfl,rfl,rfl,rfl,rfl,_⟩:=a.all;clear a cI cJ cH cD cL cN cq dg dG m cT dn dN fE gy gP iH kw lQ ip oW sg;refine aD (fun O=>by cases O) (fun O=>?_);rw [hf,ag (by decide)];exact f
   ·have hf:gQ (bN p[k].head) (bN (.mk J M gs q))=decide ((p[k].head.kids.length:Int)=q.length):=by rw [a1,hq]; rfl
    refine ⟨fun D U Ab AE CS V Y Z jv pn kV fN lP r4 pR oK jG kZ rF jX rb wt Hi w_=>Fx D 0 [Hi=.slice (some ⟨b,o,none⟩) p.length cap,wt=.int .i64 k,rb=.pointer (some ⟨b,o+k * 5,none⟩),jX=.pointer (some ⟨b,o+k * 5,none⟩),rF=.pointer (some ⟨b,o+k * 5+2,none⟩),kZ=.string p[k].head.name,jG=.pointer (some ⟨b3,2,none⟩),oK=.string gs,pR=.bool true,r4=.bool true,lP=.slice (some ⟨b,o,none⟩) p.length cap,fN=.int .i64 k,kV=.pointer (some ⟨b,o+k * 5,none⟩),pn=.pointer (some ⟨b,o+k * 5,none⟩),jv=.pointer (some ⟨b,o+k * 5+3,none⟩),Z=kv,Y=.int .i64 p[k].head.kids.length,V=.pointer (some ⟨b3,3,none⟩),CS=gv,AE=.int .i64 q.length,Ab=.bool (decide ((p[k].head.kids.length:Int)=q.length)),U=.bool (decide ((p[k].head.kids.length:Int)=q.length))]/\Inv w [] [.blk b3 (.cells #[.int .i64 J,.int .i64 M,.string gs,gv] ab),dk t5 l] S w_,⟨Fx.nil _ _,f.draw⟩,⟨?_,?_,?_,?_,?_,?_,?_,?_,?_,?_,?_,?_,?_,?_,?_,?_,?_,?_,?_,?_,?_,?_,trivial⟩,?_⟩;all_goals (intro D bH; intros; rename_i U Ab AE CS V Y Z jv pn kV fN lP r4 pR oK jG kZ rF jX rb wt Hi w_ G; have a:=G.1; obtain ⟨⟨cI,cJ,cH,cD,cL,cN,cq,dg,dG,m,cT,dn,dN,fE,gy,gP,iH,kw,lQ,ip,oW,sg,_⟩,f⟩:=G)
    ·exact ⟨a.set 0 rfl,f⟩
    ·exact ⟨a.set 1 rfl,f⟩
    ·obtain rfl:=cI ‹_›;obtain rfl:=cJ ‹_›;refine az bf r ?_;exact ⟨a.set 2 rfl,f⟩
    ·obtain rfl:=cH ‹_›;refine aw bO ?_;exact ⟨a.set 3 rfl,f⟩
    ·obtain rfl:=cD ‹_›;refine aw bl ?_;exact ⟨a.set 4 rfl,f⟩
    ·obtain rfl:=cL ‹_›;refine cQ be (by rw [f.cellS hS]; exact aF N 2 _ rfl) ?_;exact ⟨a.set 5 rfl,f⟩
    ·refine aw bl ?_;exact ⟨a.set 6 rfl,f⟩
    ·obtain rfl:=cq ‹_›;refine aT f 0 be rfl rfl ?_;exact ⟨a.set 7 rfl,f⟩
    ·obtain rfl:=cN ‹_›;obtain rfl:=dg ‹_›;refine bQ ?_; rw [hq];exact ⟨a.set 8 rfl,f⟩
    ·obtain rfl:=dG ‹_›;exact ⟨a.set 9 rfl,f⟩
    ·obtain rfl:=m ‹_›;refine bz ?_;exact ⟨a.set 10 rfl,f⟩
    ·obtain rfl:=m ‹_›;refine bz ?_;exact ⟨a.set 11 rfl,f⟩
    ·obtain rfl:=cT ‹_›;obtain rfl:=dn ‹_›;obtain rfl:=m ‹_›;refine bz ?_; refine az bf r ?_;exact ⟨a.set 12 rfl,f⟩
    ·obtain rfl:=dN ‹_›;obtain rfl:=m ‹_›;refine bz ?_; refine aw bO ?_;exact ⟨a.set 13 rfl,f⟩
    ·obtain rfl:=fE ‹_›;obtain rfl:=m ‹_›;refine bz ?_; refine aw ar ?_;exact ⟨a.set 14 rfl,f⟩
    ·obtain rfl:=gy ‹_›;obtain rfl:=m ‹_›;refine bz ?_; refine cQ al (by rw [f.cellS hS]; exact aF N 3 _ rfl) ?_;exact ⟨a.set 15 rfl,f⟩
    ·obtain rfl:=gP ‹_›;obtain rfl:=m ‹_›;refine bz ?_; refine aJ a4 ah ?_;exact ⟨a.set 16 rfl,f⟩
    ·obtain rfl:=m ‹_›;refine bz ?_; refine aw ar ?_;exact ⟨a.set 17 rfl,f⟩
    ·obtain rfl:=kw ‹_›;obtain rfl:=m ‹_›;refine bz ?_; refine aT f 0 al rfl rfl ?_;exact ⟨a.set 18 rfl,f⟩
    ·obtain rfl:=lQ ‹_›;obtain rfl:=m ‹_›;refine bz ?_; refine aJ a0 ah ?_;exact ⟨a.set 19 rfl,f⟩
    ·obtain rfl:=iH ‹_›;obtain rfl:=ip ‹_›;obtain rfl:=m ‹_›;refine bz ?_; refine bw ?_;exact ⟨a.set 20 rfl,f⟩
    ·obtain rfl:=m ‹_›;obtain rfl:=oW ‹_›;refine zp ?_;exact ⟨a.set 21 rfl,f⟩
    obtain ⟨rfl,rfl,rfl,rfl,rfl,rfl,rfl,rfl,rfl,rfl,rfl,rfl,rfl,rfl,rfl,rfl,rfl,rfl,rfl,rfl,rfl,rfl,_⟩:=a.all;clear a cI cJ cH cD cL cN cq dg dG m cT dn dN fE gy gP iH kw lQ ip oW sg;refine aD (fun O=>?_) (fun O=>?_)
    ·refine dB f iV rfl (by omega) (by omega) fun b w' f=>?_;refine dE f 1 (k:=1) [.int .i64 k] iV (by omega) rfl rfl ?_ ?_ (by omega) (by omega) fun v' w' f=>?_
     ·intro j u hj;rw [f.cellL (i:=2) rfl]
      match j with
      | 0=>simpa [Value.cells] using hj
      | j+1=>simp at hj
     ·simp [Value.oneCell']
     ·rw [pZ] at f;have f:=f.pick [true,true,false];rw [hf,ai O];have e:Item.row v' cO 1 (l.length+1) (ints (l++[(k:Int)]))=dk v' (l++[(k:Int)]):=by simp [dk]
      rw [show List.length l+1=l.length+1 from rfl,e] at f;exact f
    ·rw [hf,ag (by rw [O]; decide)];exact f
  intro t5 _ _ _ _ _ _ _ _ _ _ _ _ _ _ _ _ _ _ _ _ _ _ _ _ _ _ w' f;refine bC (by omega) ?_;refine ⟨⟨k+1,_,r,rfl,?_,?_,f⟩,by simp [intOf]; omega⟩
  ·rw [FT (fun c=>gQ (bN c.head) (bN (.mk J M gs q))) p k r l,B]
  ·split
   ·simp; omega
   ·omega
 ·have:k=p.length:=by omega
  subst this;rw [eC,dT,bV] at B;subst B;exact ⟨_,_,_,rfl,f.pick [false,true],Ext.refl _ _ _,rfl,rfl⟩
end
section
open Go Go.RowKit
attribute [local irreducible] Run CondV aq aK

def G0 (l:List Pd) (x:Pd):Bool:=l.any fun y=>gQ x y
def mv (l:List Pd) (x:Pd):List Pd:=if G0 l x=true then l else l++[x]
end
section
open Go Go.RowKit

theorem Inv.lendAll {w0 w:World} {X:List Nat} {A:List Item} (M:bh) {S:ae} (h:Inv w0 X (A++aV M) S w) :
  ∃ S',Sle S S'/\Ins S' M/\Inv w0 X A S' w/\∀ B w',Inv w0 X B S' w'->Inv w0 X (B++aV M) S w':=by
 obtain ⟨S',D,m,q,G⟩:=Inv.publishAll M h;have l:=h.nd;rw [bZ,oB] at l;refine ⟨S',m,q,D,fun B w' g=>⟨g.size,g.os,g.tape,g.output,g.old,fun it hit=>?_,?_,fun b i=>?_,fun b o i=>⟨(g.pub b o (m b o i)).1,fun f=>?_⟩⟩⟩
 ·rcases bF.1 hit with hit|hit
  ·exact g.its it hit
  ·obtain ⟨p,r,rfl⟩:=dp.1 hit;exact (g.pub _ _ (q p r)).1
 ·rw [bZ,oB];refine ⟨g.nd,l.2.1,fun a t b i e=>?_⟩;subst e;obtain ⟨p,r,rfl⟩:=iQ.1 i;exact (g.pub _ _ (q p r)).2 t
 ·rw [bZ] at i;rcases bF.1 i with i|i
  ·exact g.new b i
  ·exact h.new b (by rw [bZ]; exact fb _ i)
 ·rw [bZ] at f;rcases bF.1 f with f|f
  ·exact (g.pub b o (m b o i)).2 f
  ·exact (h.pub b o i).2 (by rw [bZ]; exact fb _ f)
theorem Inv.openRow {w0 w:World} {X:List Nat} {A:List Item} {S:ae} {v:Value} {e:TypeId} {k n:Nat} {xs:List Value} (h:Inv w0 X (A++[.row v e k n xs]) S w) :
  xs.length=n * k/\((v=.slice none 0 0/\n=0) ∨ ∃ g cap a,v=.slice (some ⟨g,0,none⟩) n cap/\n<=cap/\cap<=maxLen/\a.size=cap * k/\a.toList.take (n * k)=xs/\Inv w0 X (A++[.blk g (.cells a e)]) S w):=by
 have f:w.ownsRow 0 e k v n xs:=h.its (.row v e k n xs) (by simp);obtain ⟨hl,f⟩:=f;refine ⟨hl,?_⟩;rcases f with hn|⟨g,cap,a,rfl,_,o,i,l,m,q⟩
 ·exact .inl hn
 ·have hf:bP (A++[Item.blk g (.cells a e)])=bP (A++[Item.row (.slice (some ⟨g,0,none⟩) n cap) e k n xs]):=by
   simp [bP,Item.foot,Value.ownBlock]
  refine .inr ⟨g,cap,a,rfl,i,l,m,q,h.size,h.os,h.tape,h.output,h.old,fun it hit=>?_,by rw [hf]; exact h.nd,by rw [hf]; exact h.new,by rw [hf]; exact h.pub⟩;rcases bF.1 hit with hit|hit
  ·exact h.its it (cZ _ hit)
  ·simp at hit;subst hit;exact o
theorem Inv.closeRow {w0 w:World} {X:List Nat} {A:List Item} {S:ae} {g cap k n:Nat} {a:Array Value} {e:TypeId} (h:Inv w0 X (A++[.blk g (.cells a e)]) S w) (hn:n<=cap) (hc:cap<=maxLen) (f:a.size=cap * k) :
  Inv w0 X (A++[.row (.slice (some ⟨g,0,none⟩) n cap) e k n (a.toList.take (n * k))]) S w:=by
 have i:w.heap[g]?=some (.cells a e):=h.its (.blk g (.cells a e)) (by simp);have hf:bP (A++[Item.row (.slice (some ⟨g,0,none⟩) n cap) e k n (a.toList.take (n * k))])=bP (A++[Item.blk g (.cells a e)]):=by
  simp [bP,Item.foot,Value.ownBlock]
 refine ⟨h.size,h.os,h.tape,h.output,h.old,fun it hit=>?_,by rw [hf]; exact h.nd,by rw [hf]; exact h.new,by rw [hf]; exact h.pub⟩;rcases bF.1 hit with hit|hit
 ·exact h.its it (cZ _ hit)
 ·simp at hit;subst hit;refine ⟨?_,.inr ⟨g,cap,a,rfl,bk _,i,hn,hc,f,rfl⟩⟩;rw [cM,Qp,f];exact lw (gM k hn)

section
attribute [local irreducible] Run CondV aq aK
end
end
section
open Go Go.RowKit

structure Grown {α:Type} (k:Nat) (R:bh->List Value->α->Prop) (Ls:List bh) (css:List (List Value)) (ys:List α):Prop where
 hL:Ls.length=ys.length
 hc:css.length=ys.length
 hk:∀ cs∈css,cs.length=k
 hR:∀ i (h:i<ys.length) (h1:i<Ls.length) (h2:i<css.length),R Ls[i] css[i] ys[i]
theorem Grown.nil {α:Type} (k:Nat) (R:bh->List Value->α->Prop):Grown k R [] [] ([]:List α):=⟨rfl,rfl,by simp,fun i h=>by simp at h⟩
theorem Grown.snoc {α:Type} {k:Nat} {R:bh->List Value->α->Prop} {Ls:List bh} {css:List (List Value)} {ys:List α} (h:Grown k R Ls css ys) {L:bh} {cs:List Value} {y:α} (hR:R L cs y) (hl:cs.length=k) :
  Grown k R (Ls++[L]) (css++[cs]) (ys++[y]):=by
 refine ⟨by simp [h.hL],by simp [h.hc],fun c hc=>?_,fun i f g l=>?_⟩
 ·rcases bF.1 hc with hc|hc
  ·exact h.hk c hc
  ·simp at hc; subst hc; exact hl
 ·have e1:=h.hL;have e2:=h.hc;by_cases a:i<ys.length
  ·rw [fA (by omega),fA (by omega),fA a];exact h.hR i a (by omega) (by omega)
  ·have:i=ys.length:=by simp at f; omega
   subst this;rw [eZ (by omega),eZ (by omega),eZ (by omega)];simp only [e1,e2,ey,lc];exact hR
theorem i8 (k:Nat):∀ (css:List (List Value)) (i:Nat) (_:∀ cs∈css,cs.length=k) (h:i<css.length),(css.flatten.drop (i * k)).take k=css[i]
 | [],i,_,h=>by simp at h
 | c::css,0,hk,_=>by
  have:=hk c (aM ..);rw [fh,AZ,ym,Gf (by omega),Lj (by omega)];rfl
 | c::css,i+1,hk,h=>by
  have:=hk c (aM ..);rw [fh,iX,sG,<- Rh,List.drop_left' this];exact i8 k css i (fun cs hc=>hk cs (aR _ hc)) (by simpa using h)
abbrev aA (v:Value) (e:TypeId) (k:Nat) (css:List (List Value)):Item:=.row v e k css.length css.flatten
theorem Inv.rowTree {α:Type} {w0 w:World} {X:List Nat} {A:List Item} {S:ae} {v:Value} {e:TypeId} {k:Nat} {R:bh->List Value->α->Prop} {Ls:List bh} {css:List (List Value)} {ys:List α}
  (h:Inv w0 X (A++(aA v e k css::aV Ls.flatten)) S w) (m:Grown k R Ls css ys):∃ L,TrSl k R L v ys/\Inv w0 X (A++aV L) S w:=by
 have B:List.Perm ((A++aV Ls.flatten)++[aA v e k css]) (A++(aA v e k css::aV Ls.flatten)):=by
  rw [dx];exact zL _ cj
 obtain ⟨hl,t⟩:=(h.perm B).openRow;have f:=m.hc;have o:=m.hL;rcases t with ⟨rfl,U⟩|⟨g,cap,a,rfl,G,l,J,M,N⟩
 ·have:ys=[]:=gF (by omega);subst this;refine ⟨[],TrSl.nil (by simp [maxLen]),?_⟩;simpa [aV] using h.sub (dt _ _)
 ·by_cases O:ys=[]
  ·subst O;have:css=[]:=gF (by simpa using f);subst this;refine ⟨[],TrSl.nil l,?_⟩;simpa [aV] using h.sub (dt _ _)
  ·refine ⟨(g,.cells a e)::Ls.flatten,⟨_,cap,by rw [f],by omega,l,.inr ⟨g,a,e,Ls,rfl,rfl,o,by omega,fun i q r=>?_⟩⟩,?_⟩
   ·have D:i * k+k<=css.length * k:=by rw [<- iX]; exact gM k (by omega)
    have:=i8 k css i m.hk (by omega);rw [<- M,GU,lD,lw (by omega)] at this;rw [aX,this];exact m.hR i q r (by omega)
   ·refine N.perm ?_;rw [dx];exact zL _ (cj (l₁:=[Item.blk g (.cells a e)]))
theorem eE (v:Value) (e:TypeId) (k:Nat) (css:List (List Value)) (cs:List Value):Item.row v e k (css.length+1) (css.flatten++cs)=aA v e k (css++[cs]):=by
 simp [aA]
section
variable {P:Program} {w w0:World} {X:List Nat} {L:List Item} {S:ae} {K:Value->World->Prop}
attribute [local irreducible] Run CondV aq aK
theorem de (h:Inv w0 X L S w) {T ty e:TypeId} {k by_:Nat} {z v:Value} {cs:List Bool} {css:List (List Value)} (i:Nat) (xs:List Value)
  (B:oE P T=some (e,k,by_,z)) (a:0<k) (f:k<=65536) (D:L[i]?=some (aA v e k css)) (hl:xs.length=k) (G:∀ u∈xs,u.oneCell'=true) (g:css.length+1<=4294967296) (r:by_<=32768)
  {K:Value->Value->World->Prop} (hk:∀ t w',Inv w0 X (L.set i (aA t e k (css++[xs]))) S w'->K (.slice (some ⟨w.heap.size,0,none⟩) 1 1) t w') :
  Run P (cd T 1 [(0,.agg xs.toArray)]) w fun u w'=>Run P (cm .append #[T,T] ty cs [v,u]) w' (K u):=by
 refine uP h B (by simp [Value.cells,hl]) f a fun w' l=>?_;have q:i<L.length:=(fa.1 D).1;refine dE l i xs B a (by rw [wo q]; exact D) (by omega) (m:=1) (o:=0) ?_ G g r fun t w' l=>?_
 ·intro j u J;rw [l.cellL (i:=L.length) (by rw [gG (aS _),ey]; rfl)];rw [cP];simpa [Value.cells] using J
 ·refine hk _ _ ?_;rw [<- eE];rw [Pi _ _ q] at l;exact l.sub (dt _ _)
end

section
attribute [local irreducible] Run CondV aq aK
theorem FA {ts:List T} (G:∀ t∈ts,∀ (S:ae) (cs:List Value),RdT S cs t->wT t<=1048576->Tri Tryz.prog Q9 [.agg cs.toArray] [] S (CP S t))
  {S:ae} {v:Value} (h:RdSl S 4 (RdT S) v ts) (Y:ts.length+wL ts<=1048576):Tri Tryz.prog Df [v] [] S (N6 4 TrT S ts):=by
 intro w a;refine yf.2 ?_;dsimp only[yf,aO];refine aJ h ah ?_;refine ⟨fun i t w'=>∃ (k:Nat) (Ls:List bh) (css:List (List Value)),k<=ts.length/\i=.int .i64 k/\Grown 4 TrT Ls css (ts.take k)/\Inv w [] (aA t ab 4 css::aV Ls.flatten) S w',
  fun i _ _=>ts.length - (intOf i).toNat,⟨0,[],[],bk _,rfl,Grown.nil _ _,a.rowNil ab 4⟩,?_⟩
 intro Z _ B _ _ _ _ _ _ _ _ _ w';rintro ⟨k,Ls,css,hk,rfl,q,a⟩;refine bS ?_;refine aL (fun r=>?_) (fun r=>?_)
 ·have f:k<ts.length:=by omega
  have O:(ts.take k).length=k:=by simp; omega
  have U:=q.hc;refine co a h ah ad f (fun _ _=>RdT.length) fun cs g=>?_;have D:=bG f;have V:=iJ D;have o:=g.length;refine aQ a bj fun J w' a=>?_;have a:=a.perm (M:=.blk J _::(aA B ab 4 css::aV Ls.flatten)) (cj (l₁:=[_]));refine au a 0 rfl ad (by simpa using o) rfl (by simpa using g.one) fun w' a=>?_;refine aC a 0 ad rfl (by simpa using o) ?_;have a:Inv w [] (aA B ab 4 css::aV Ls.flatten) S w':=a.sub (fH _ _);refine Run.call0 Ns NA a (G _ D S cs g (by omega)) fun N I' S' w'=>?_;rintro ⟨rfl,m,L,rfl,rfl,l⟩ _ a;refine de a 0 m bn (by omega) (by omega) rfl l.length l.one (by omega) (by omega) fun N w' a=>?_;refine bC (by omega) ?_;refine ⟨⟨k+1,Ls++[L],css++[m],f,rfl,?_,?_⟩,by simp [intOf]; omega⟩
  ·rw [eV f];exact q.snoc l l.length
  ·simp only [mG,fh,k0,bV,cK];exact a
 ·have:k=ts.length:=by omega
  subst this;rw [d4] at q;obtain ⟨L,l,a⟩:=Inv.rowTree (A:=[]) a q;exact ⟨_,_,_,rfl,a,Ext.refl _ _ _,rfl,_,rfl,l⟩
theorem Jv:∀ (t:T) (S:ae) (cs:List Value),RdT S cs t->wT t<=1048576->Tri Tryz.prog Q9 [.agg cs.toArray] [] S (CP S t):=by
 refine T.ind fun k n s ks G S cs h J=>?_;intro w f;obtain ⟨kv,rfl,q,r,B,i⟩:=RdT.iff.1 h;simp only [T.name,T.kids,T.kind,T.n] at q r B i ⊢;simp only [wT] at J;refine MK.2 ?_;dsimp only[MK,aO];refine bJ f fun M w' f=>?_;refine aQ f bj fun N w' f=>?_;refine af f 0 rfl ar al rfl ?_;refine Run.call0 qH qf f (FA G i (by omega)) fun g I' S' w'=>?_;rintro ⟨rfl,L,rfl,o⟩ _ f;have m:g.cells=#[g]/\g.oneCell'=true:=by obtain ⟨a,cap,rfl,_⟩:=o; exact ⟨rfl,rfl⟩
 refine dj f 0 rfl ar al rfl m.1 m.2 fun w' f=>?_;refine aC f 0 ad rfl rfl ?_;refine au f 1 rfl ad rfl rfl ?_ fun w' f=>?_
 ·intro u D;have l:u∈([.int .i64 k,.int .i64 n,.string s,g]:List Value):=D;simp at l;rcases l with rfl|rfl|rfl|rfl <;> first|rfl|exact m.2
 refine bB f 1 ad rfl rfl ?_;refine ⟨_,_,_,rfl,f.sub (dH [_,_] (aV L)),Ext.refl _ _ _,rfl,[.int .i64 k,.int .i64 n,.string s,g],L,rfl,rfl,TrT.iff.2 ⟨g,rfl,q,r,B,o⟩⟩
theorem vM {ts:List T} {S:ae} {v:Value} (h:RdSl S 4 (RdT S) v ts) (a:ts.length+wL ts<=1048576):Tri Tryz.prog Df [v] [] S (N6 4 TrT S ts):=
 FA (fun t _=>Jv t) h a
end
end
end Go.Proofs.YtgllldjiaglkcaaGreatDoor
