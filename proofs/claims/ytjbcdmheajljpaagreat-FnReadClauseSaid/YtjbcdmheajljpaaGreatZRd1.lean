/- A row of a function's own, handed to a function that only reads; rows of numbers. -/
import Derived.Test.YtjbcdmheajljpaaGreatZRdA
import Derived.Test.YtjbcdmheajljpaaGreatZRd0
import Derived.Test.YtjbcdmheajljpaaGreatRows
import Derived.ProofKit
import Derived.ReadAgain
import Derived.Carry
import Derived.Laws.BytesArg
import Derived.Laws.StructEq
import Derived.Laws.Tables
namespace Go.Proofs.YtjbcdmheajljpaaGreat
attribute [local irreducible] Run CondV aI bg
section
open Go Go.RowKit

def RowRd (S:ai) (v:Value) (e:TypeId) (k n:Nat) (xs:List Value):Prop:=
 xs.length=n * k/\((v=nx/\n=0) ∨ ∃ g cap cur,v=kt g 0 n cap/\S g=some (.cells cur e)/\n<=cap/\cap<=maxLen/\cur.size=cap * k/\cur.toList.take (n * k)=xs)
theorem Inv.lend {w0 w:World} {X:List Nat} {A:List Item} {S:ai} {v:Value} {e:TypeId} {k n:Nat} {xs:nA} (h:Inv w0 X (A++[.row v e k n xs]) S w) :
  ∃ S',Sle S S'/\RowRd S' v e k n xs/\Inv w0 X A S' w/\∀ B w',Inv w0 X B S' w'->Inv w0 X (B++[.row v e k n xs]) S w':=by
 have N:w.ownsRow 0 e k v n xs:=h.its (.row v e k n xs) (by simp);obtain ⟨J,N⟩:=N;rcases N with ⟨rfl,rfl⟩|⟨g,cap,l,rfl,_,hg,C,D,G,U⟩
 ·have:xs=[]:=jM (by rw [J,l5]);subst this;exact ⟨S,Sle.refl S,⟨J,.inl ⟨rfl,rfl⟩⟩,h.sub (gV _ _),fun B w' m=>m.rowNil e k⟩
 ·have hf:cg (A++[Item.blk g (.cells l e)])=cg (A++[Item.row (kt g 0 n cap) e k n xs]):=by
   simp [cg,Item.foot,Value.ownBlock]
  have q:g∈cg (A++[Item.row (kt g 0 n cap) e k n xs]):=by simp [cg,Item.foot,Value.ownBlock]
  have h':Inv w0 X (A++[Item.blk g (.cells l e)]) S w:=by
   refine ⟨h.size,h.os,h.tape,h.output,h.old,fun it i=>?_,by rw [hf];exact h.nd,by rw [hf];exact h.new,by rw [hf];exact h.pub⟩;rcases cU.1 i with i|i
   ·exact h.its it (gf _ i)
   ·simp at i;subst i;exact hg
  obtain ⟨Y,Z⟩:=h'.publishLast;refine ⟨oJ S g (.cells l e),Z,⟨J,.inr ⟨g,cap,l,rfl,by simp [oJ],C,D,G,U⟩⟩,Y,fun B w' m=>?_⟩;have r:=m.pub g (.cells l e) (by simp [oJ]);have p:cg (B++[Item.row (kt g 0 n cap) e k n xs])=cg B++[g]:=by simp [cg,Item.foot,Value.ownBlock]
  refine ⟨m.size,m.os,m.tape,m.output,m.old,fun it i=>?_,?_,?_,?_⟩
  ·rcases cU.1 i with i|i
   ·exact m.its it i
   ·simp at i;subst i;exact ⟨J,.inr ⟨g,cap,l,rfl,aT _,r.1,C,D,G,U⟩⟩
  ·rw [p,mK];refine ⟨m.nd,by simp,fun a V b O=>?_⟩;simp at O;subst O;intro M;subst M;exact r.2 V
  ·intro c hc;rw [p] at hc;rcases cU.1 hc with hc|hc
   ·exact m.new c hc
   ·simp at hc;subst hc;exact h.new _ q
  ·intro c o hc;have t:c≠g:=fun M=>by
    subst M;exact (h.pub c o hc).2 q
   have:=m.pub c o (by simp only [oJ];rw [ae t];exact hc);refine ⟨this.1,?_⟩;rw [p];intro j;rcases cU.1 j with j|j
   ·exact this.2 j
   ·simp at j;exact t j
theorem RJ {α:Type} (f:α->nA) (k:Nat) (hf:∀ y,(f y).length=k):∀ (ys:List α) (i:Nat) (h:i<ys.length),((ys.flatMap f).drop (i * k)).take k=f ys[i]
 | [],i,h=>by simp at h
 | y::ys,0,h=>by
  rw [Mi,l5,fe,Pb (by rw [hf];exact aY _),wd (by rw [hf];exact aY _)];rfl
 | y::ys,i+1,h=>by
  rw [Mi,ip,Nat.add_comm,<- Jc,List.drop_left' (hf y)];exact RJ f k hf ys i (by simpa using h)
theorem RowRd.rd {α:Type} {S:ai} {v:Value} {e:TypeId} {k:Nat} {f:α->nA} {R:nA->α->Prop} {ys:List α} (hf:∀ y,(f y).length=k) (hR:∀ y∈ys,R (f y) y)
  (h:RowRd S v e k ys.length (ys.flatMap f)):RdSl S k R v ys:=by
 obtain ⟨B,h⟩:=h;rcases h with ⟨rfl,p⟩|⟨g,cap,j,rfl,q,l,m,r,t⟩
 ·have:ys=[]:=jM p;subst this;exact ⟨none,0,rfl,aY _,aT _,.inl rfl⟩
 ·refine ⟨_,cap,rfl,l,m,.inr ⟨g,0,j,e,(0,0),rfl,q,fun i a=>?_⟩⟩;have:=RJ f k hf ys i a;have o:i * k+k<=ys.length * k:=by rw [<- ip];exact fK k a
  rw [<- t,IQ,EZ,AO (by omega)] at this;rw [bJ,cS,this];exact hR _ (cO a)

def ints (ns:List Int):List Value:=ns.flatMap fun n=>[ee n]
abbrev cA (v:Value) (ns:List Int):Item:=.row v bV 1 ns.length (ints ns)
theorem z9 (a:List Int) (n:Int):ints a++[ee n]=ints (a++[n]):=by simp [ints]
theorem RowRd.ints {S:ai} {v:Value} {e:TypeId} {a:List Int} (h:RowRd S v e 1 a.length (ints a)):RdSl S 1 kH v a:=
 RowRd.rd (f:=fun n=>[Value.int .i64 n]) (fun _=>rfl) (fun _ _=>rfl) h
def Do (l:List Int) (n:Int):Bool:=l.any fun x=>decide (n=x)
def jw (l:List Int) (n:Int):List Int:=if Do l n=true then l else l++[n]
theorem K8 (l:List Int) (n:Int):(jw l n).length<=l.length+1:=by
 unfold jw;split <;> simp

theorem rl (s:Int) {xs:List Int} {S:ai} {v:Value} (h:RdSl S 1 kH v xs) :
  ru GO [v,ee s] S (ee (dZ (σ:=Unit) (fun _ x=>(decide (s=x),())) () xs 0).1):=by
 intro w j;have l:=h.le;simp only [maxLen] at l;refine tf.2 ?_;dsimp only[tf,bv];refine aO h ff ?_;refine ⟨fun i w'=>∃ k:Nat,k<=xs.length/\i=ee k/\dZ (σ:=Unit) (fun _ x=>(decide (s=x),())) () (xs.drop k) k=dZ (σ:=Unit) (fun _ x=>(decide (s=x),())) () xs 0/\Inv w [] [] S w',
  fun i _=>xs.length - (intOf i).toNat,⟨0,aT _,rfl,rfl,j⟩,?_⟩
 intro q _ _ _ _ _ _ _ _ _ _ _ _ w';rintro ⟨k,hk,rfl,a,j⟩;refine cd ?_;refine aJ (fun m=>?_) (fun m=>?_)
 ·have g:k<xs.length:=by omega
  rw [ef g,dZ] at a;refine jq j h ff au g (fun cs o=>o) ?_;refine a9 ?_;refine aJ (fun p=>done j ?_) (fun p=>?_)
  ·rw [<- a,ag (by simpa using p)]
  ·refine bL (by omega) ?_;rw [ae (by simpa using p)] at a;exact ⟨⟨k+1,g,rfl,a,j⟩,by simp [intOf];omega⟩
 ·have:k=xs.length:=by omega
  subst this;rw [eL,dZ] at a;exact done j (by rw [<- a])
theorem v8 (s:Int) {xs:List Int} {S:ai} {v:Value} (h:RdSl S 1 kH v xs):ru zP [v,ee s] S (.bool (Do xs s)):=by
 intro w a;refine nO.2 ?_;dsimp only[nO,bv];refine Run.callPure sZ sA a (rl s h) fun w' a=>?_;refine iK (done a ?_);rw [(qc _ xs () 0).1,ud];rfl
end
section
open Go Go.RowKit

mutual
def ii:T->List Int->List Int
 | .mk k n _ ks,l=>ek ks (if k=1 then jw l n else l)
def ek:List T->List Int->List Int
 | [],l=>l
 | t::ts,l=>ek ts (ii t l)
end
mutual
def fh:T->List Int->List Int
 | .mk k n _ ks,l=>if k=1 then jw l n else cE ks l
def cE:List T->List Int->List Int
 | [],l=>l
 | t::ts,l=>cE ts (fh t l)
end
mutual
theorem EY:∀ (t:T) (l:List Int),((ii t l).length:Int)<=l.length+bR t
 | .mk k n s ks,l=>by
  rw [ii,show bR (T.mk k n s ks)=1+bo ks from rfl];have a:=K8 l n;have:=FZ ks (if k=1 then jw l n else l);split at this <;> rename_i hk <;> simp only [hk,if_true,if_false] at this ⊢ <;> omega
theorem FZ:∀ (ts:List T) (l:List Int),((ek ts l).length:Int)<=l.length+bo ts
 | [],l=>by simp [ek,bo]
 | t::ts,l=>by
  rw [ek,show bo (t::ts)=bR t+bo ts from rfl];have:=EY t l;have:=FZ ts (ii t l);omega
end
mutual
theorem Bc:∀ (t:T) (l:List Int),((fh t l).length:Int)<=l.length+bR t
 | .mk k n s ks,l=>by
  rw [fh,show bR (T.mk k n s ks)=1+bo ks from rfl];have a:=K8 l n;have:=ch ks;split
  ·omega
  ·have:=HV ks l;omega
theorem HV:∀ (ts:List T) (l:List Int),((cE ts l).length:Int)<=l.length+bo ts
 | [],l=>by simp [cE,bo]
 | t::ts,l=>by
  rw [cE,show bo (t::ts)=bR t+bo ts from rfl];have:=Bc t l;have:=HV ts (fh t l);omega
end
mutual
theorem Nh:∀ (t:T) (d:Int) (l:List Int),dC t d=true->fh t l=ii t l
 | .mk k n s ks,d,l,h=>by
  rw [dC] at h;split at h
  ·cases h
  ·rw [bQ] at h;rw [fh,ii];split
   ·rw [LT h.1 (.inl ‹k=1›)]; rfl
   ·exact D0 ks (d - 1) l h.2
theorem D0:∀ (ts:List T) (d:Int) (l:List Int),de ts d=true->cE ts l=ek ts l
 | [],d,l,h=>rfl
 | t::ts,d,l,h=>by
  rw [de,bQ] at h;rw [cE,ek,Nh t d l h.1];exact D0 ts d _ h.2
end
theorem sG {t:T} (h:bY t=true):dC t 30=true:=by
 rw [bY,bQ] at h;exact h.1
abbrev LL (S:ai) (r:List Int):Value->List Item->ai->Prop:=fun v I' S'=>I'=[cA v r]/\S'=S

theorem Tv (l:List Int) (n:Int):l.length<=(jw l n).length:=by
 unfold jw;split
 ·exact aY _
 ·rw [bt];omega
mutual
theorem GC:∀ (t:T) (l:List Int),l.length<=(fh t l).length
 | .mk k n s ks,l=>by
  rw [fh];split
  ·exact Tv l n
  ·exact wg ks l
theorem wg:∀ (ts:List T) (l:List Int),l.length<=(cE ts l).length
 | [],l=>by rw [cE]; exact aY _
 | t::ts,l=>by
  rw [cE];exact il (GC t l) (wg ts _)
end
theorem ox:∀ (t:T) (S:ai) (cs:nA) (v:Value) (l:List Int),RdT S cs t->(fh t l).length<=1000000000->nB ET [v,.agg cs.toArray] [cA v l] S (LL S (fh t l)):=by
 refine T.ind fun k n s ks ih S cs v l h hl=>?_;intro w a;obtain ⟨kv,rfl,_,_,hs,G⟩:=RdT.iff.1 h;simp only [T.name,T.kids,T.kind,T.n] at hs G ⊢;have Y:=G.le;simp only [maxLen] at Y;have b4:=GC (.mk k n s ks) l;have B:∀ {w':World} {v':Value} {b:Nat} {o:Obj} (r:List Int),Inv w (cg [cA v l]) [.blk b o,cA v' r] S w'->r=fh (.mk k n s ks) l->
   ∃ a0 I' S',Ending.returned v'=.returned a0/\Inv w (cg [cA v l]) I' S' w'/\Ext w.heap.size (cg [cA v l]) S S'/\LL S (fh (.mk k n s ks) l) a0 I' S':=by
  intro w' v' b o r h1 h2;subst h2;exact ⟨_,_,_,rfl,h1.pick [false,true],Ext.refl _ _ _,rfl,rfl⟩
 refine Bo.2 ?_;dsimp only[Bo,bv];refine bH a fun b3 w' a=>?_;have a:=a.perm (M:=[ei b3 #[ee k,ee n,.string s,kv] ac,cA v l]) (List.Perm.swap _ _ _);refine ah a 0 rfl aW au rfl ?_;refine a9 ?_;refine aJ (fun hk=>?_) (fun hk=>?_)
 ·have Z:jw l n=fh (.mk k n s ks) l:=by rw [fh,ag hk]
  obtain ⟨S1,b2,J,a,q⟩:=Inv.lend (A:=[_]) a;have J:=J.ints;refine ⟨fun i w'=>∃ j:Nat,j<=l.length/\i=ee j/\Do (l.drop j) n=Do l n/\Inv w (cg [cA v l]) [ei b3 #[ee k,ee n,.string s,kv] ac] S1 w',
   fun i _=>l.length - (intOf i).toNat,⟨0,aT _,rfl,rfl,a⟩,?_⟩
  intro t5 _ _ _ _ a4 a5 a6 a7 a8 b0 b1 _ _ _ _ w';rintro ⟨j,hj,rfl,g,a⟩;refine aO J ff ?_;refine cd ?_;refine aJ (fun N=>?_) (fun N=>?_)
  ·have m:j<l.length:=by omega
   have C:Do (l.drop j) n=(decide (n=l[j]) || Do (l.drop (j+1)) n):=LO _ l j m;obtain ⟨b,o,cap,c,E,fz,rfl,hS,hR⟩:=J.at_ m;refine ⟨fun D pr oM lT mY oX lS p8 w_=>Fx D 0 [p8=kt b o l.length cap,lS=ee j,oX=kh b (o+j * 1),mY=ee l[j],lT=kh b3 1,oM=ee n,pr=.bool (decide (l[j]=n))]/\Inv w (cg [cA (kt b o l.length cap) l]) [ei b3 #[ee k,ee n,.string s,kv] ac] S1 w_,⟨Fx.nil _ _,a.draw⟩,⟨?_,?_,?_,?_,?_,?_,?_,trivial⟩,?_⟩;all_goals (intro D bp;intros;rename_i pr oM lT mY oX lS p8 w_ U;have p:=U.1;obtain ⟨⟨cF,ci,cG,cD,bU,cH,cj,_⟩,a⟩:=U)
   ·exact ⟨p.set 0 rfl,a⟩
   ·exact ⟨p.set 1 rfl,a⟩
   ·obtain rfl:=cF ‹_›;obtain rfl:=ci ‹_›;refine aN ff m ?_;exact ⟨p.set 2 rfl,a⟩
   ·obtain rfl:=cG ‹_›;refine eD au (by rw [a.cellS hS];exact bf hR 0 _ rfl) ?_;exact ⟨p.set 3 rfl,a⟩
   ·refine ax aR ?_;exact ⟨p.set 4 rfl,a⟩
   ·obtain rfl:=bU ‹_›;refine aG a 0 au rfl rfl ?_;exact ⟨p.set 5 rfl,a⟩
   ·obtain rfl:=cD ‹_›;obtain rfl:=cH ‹_›;refine a9 ?_;exact ⟨p.set 6 rfl,a⟩
   obtain ⟨rfl,rfl,rfl,rfl,rfl,rfl,rfl,_⟩:=p.all;clear p cF ci cG cD bU cH cj;refine aJ (fun he=>?_) (fun he=>?_)
   ·refine B l (q _ _ a) ?_;rw [<- Z,jw,ag (by rw [<- g,C,aD he.symm];rfl)]
   ·refine bL (by omega) ?_;exact ⟨⟨j+1,m,rfl,by rw [<- g,C,aM (fun e=>he e.symm)];rfl,a⟩,by simp [intOf];omega⟩
  ·have:j=l.length:=by omega
   subst this;have a2:Do l n=false:=by rw [<- g,eL];rfl
   have a:Inv w (cg [cA v l]) [ei b3 #[ee k,ee n,.string s,kv] ac,cA v l] S _:=q _ _ a;refine ah a 0 rfl aR au rfl ?_;refine eO a iX rfl (by omega) (by omega) fun b w' a=>?_;refine fl a 1 (k:=1) [ee n] iX (by omega) rfl rfl ?_ ?_ (by omega) (by omega) fun v' w' a=>?_
   ·intro j u hj;rw [a.cellL (i:=2) rfl]
    match j with
    | 0=>simpa [Value.cells] using hj
    | j+1=>simp at hj
   ·simp [Value.oneCell']
   ·rw [z9] at a;have a:=a.pick [true,true,false];refine B (b:=b3) (o:=.cells #[ee k,ee n,.string s,kv] ac) (l++[n]) ?_ ?_
    ·have e:Item.row v' bV 1 (l.length+1) (ints (l++[n]))=cA v' (l++[n]):=by simp [cA]
     exact e ▸ a
    ·rw [<- Z,jw,ae (by rw [a2];decide)]
 ·have Z:cE ks l=fh (.mk k n s ks) l:=by rw [fh,ae hk]
  refine ⟨fun i t w'=>∃ (j:Nat) (O:List Int),j<=ks.length/\i=ee j/\cE (ks.drop j) O=cE ks l/\Inv w (cg [cA v l]) [ei b3 #[ee k,ee n,.string s,kv] ac,cA t O] S w',
   fun i _ _=>ks.length - (intOf i).toNat,⟨0,l,aT _,rfl,rfl,a⟩,?_⟩
  intro t6 _ _ t0 _ _ _ _ _ _ _ _ _ _ _ _ w';rintro ⟨j,O,hj,rfl,g,a⟩;refine ah a 0 rfl az aw rfl ?_;refine aO G ao ?_;refine cd ?_;refine aJ (fun N=>?_) (fun N=>?_)
  ·have m:j<ks.length:=by omega
   rw [ef m,cE] at g;have a3:=wg (ks.drop (j+1)) (fh ks[j] O);rw [g,Z] at a3;refine ah a 0 rfl az aw rfl ?_;refine dj a G ao af m (fun _ _=>RdT.length) fun a1 V=>?_;refine Run.call (A:=[_]) oe nT a (ih _ (cO m) S a1 t0 O V (by omega)) fun v' I' S' w'=>?_;rintro ⟨rfl,rfl⟩ _ a;refine bL (by omega) ?_;exact ⟨⟨j+1,_,m,rfl,g,a⟩,by simp [intOf];omega⟩
  ·have:j=ks.length:=by omega
   subst this;rw [eL,cE] at g;exact B O a (by rw [g,Z])

theorem Km (t:T) (S:ai) (cs:nA) (v:Value) (l:List Int) (h:RdT S cs t) (a:l.length+bR t<=1000000000):nB ET [v,.agg cs.toArray] [cA v l] S (LL S (fh t l)):=
 ox t S cs v l h (by have:=Bc t l;omega)

theorem Hp:∀ (t:T) (S:ai) (cs:nA) (v:Value) (l:List Int),RdT S cs t->l.length+bR t<=1000000000->nB MM [.agg cs.toArray,v] [cA v l] S (LL S (ii t l)):=by
 refine T.ind fun k n s ks ih S cs v l h hl=>?_;intro w a;obtain ⟨kv,rfl,_,_,hs,p⟩:=RdT.iff.1 h;simp only [T.name,T.kids,T.kind,T.n] at hs p ⊢;have C:=p.le;simp only [maxLen] at C;rw [show bR (T.mk k n s ks)=1+bo ks from rfl] at hl;have a3:=ch ks;have a4:=K8 l n;refine yj.2 ?_;dsimp only[yj,bv];refine bH a fun G w' a=>?_;have a:=a.perm (M:=[ei G #[ee k,ee n,.string s,kv] ac,cA v l]) (List.Perm.swap _ _ _);refine ⟨fun t w'=>Inv w (cg [cA v l]) [ei G #[ee k,ee n,.string s,kv] ac,cA t (if k=1 then jw l n else l)] S w',?_,?_⟩
 ·refine ⟨fun t w'=>t=.bool (decide (k=1) && !Do l n)/\Inv w (cg [cA v l]) [ei G #[ee k,ee n,.string s,kv] ac,cA v l] S w',?_,?_⟩
  ·refine ah a 0 rfl aW au rfl ?_;refine a9 ?_;cases h1:decide (k=1)
   ·refine rpG ?_;exact ⟨rfl,a⟩
   ·refine rpG ?_;refine ah a 0 rfl aR au rfl ?_;obtain ⟨S1,a2,V,a,q⟩:=Inv.lend (A:=[_]) a;refine Run.callPure yi xS a (v8 n V.ints) fun w' a=>?_;refine c8 ?_;refine rpG ?_;exact ⟨rfl,q _ _ a⟩
  intro a0 _ _ _ _ _ _ _ _ _ w';rintro ⟨rfl,a⟩;refine aL (fun B=>?_) (fun B=>?_)
  ·simp only [bQ,bK,ry] at B;refine ah a 0 rfl aR au rfl ?_;refine eO a iX rfl (by omega) (by omega) fun b w' a=>?_;refine fl a 1 (k:=1) [ee n] iX (by omega) rfl rfl ?_ ?_ (by omega) (by omega) fun v' w' a=>?_
   ·intro j u J;rw [a.cellL (i:=2) rfl]
    match j with
    | 0=>simpa [Value.cells] using J
    | j+1=>simp at J
   ·simp [Value.oneCell']
   ·rw [z9] at a;have a:=a.pick [true,true,false];rw [ag B.1,jw,ae (by rw [B.2];decide)];have e:Item.row v' bV 1 (l.length+1) (ints (l++[n]))=cA v' (l++[n]):=by simp [cA]
    rw [show List.length l+1=l.length+1 from rfl,e] at a;exact a
  ·have:(if k=1 then jw l n else l)=l:=by
    split
    ·rename_i hk
     rw [jw];simp [hk] at B;rw [ag B]
    ·rfl
   rw [this];exact a
 intro Z _ _ _ _ _ _ _ _ _ _ _ _ _ _ _ w' a;have Y:((if k=1 then jw l n else l).length:Int)+bo ks<=1000000000:=by split <;> omega
 rw [show ii (.mk k n s ks) l=ek ks (if k=1 then jw l n else l) from by rw [ii]];generalize (if k=1 then jw l n else l)=l1 at a Y ⊢;refine ah a 0 rfl az aw rfl ?_;refine aO p ao ?_;refine ⟨fun i t w'=>∃ (j:Nat) (r:List Int),j<=ks.length/\i=ee j/\ek (ks.drop j) r=ek ks l1/\r.length+bo (ks.drop j)<=1000000000/\Inv w (cg [cA v l]) [ei G #[ee k,ee n,.string s,kv] ac,cA t r] S w',
  fun i _ _=>ks.length - (intOf i).toNat,⟨0,l1,aT _,rfl,rfl,by rw [fe];omega,a⟩,?_⟩
 intro a1 _ Z _ _ _ _ _ _ _ w';rintro ⟨j,r,J,rfl,g,N,a⟩;refine cd ?_;refine aJ (fun O=>?_) (fun O=>?_)
 ·have o:j<ks.length:=by omega
  rw [p7 ks j o] at N;rw [ef o,ek] at g;have a5:=ch (ks.drop (j+1));have a6:=EY ks[j] r;refine dj a p ao af o (fun _ _=>RdT.length) fun U m=>?_;have D:=m.length;refine aE a aQ fun b6 w' a=>?_;refine aj a 2 rfl af (by simpa using D) rfl (by simpa using m.one) fun w' a=>?_;refine aq a 2 af rfl (by simpa using D) ?_;have a:=a.pick [true,true,false];refine Run.call (A:=[_]) yI xQ a (ih _ (cO o) S U Z r m (by omega)) fun v' I' S' w'=>?_;rintro ⟨rfl,rfl⟩ _ a;refine bL (by omega) ?_;exact ⟨⟨j+1,_,o,rfl,g,by omega,a⟩,by simp [intOf];omega⟩
 ·have:j=ks.length:=by omega
  subst this;rw [eL,ek] at g;subst g;exact ⟨_,_,_,rfl,a.pick [false,true],Ext.refl _ _ _,rfl,rfl⟩
theorem Kx {ts:List T} {S:ai} {v:Value} (h:RdSl S 4 (RdT S) v ts) (D:bo ts<=1000000000):nB PT [v] [] S (LL S (ek ts [])):=by
 intro w a;have p:=h.le;simp only [maxLen] at p;refine BB.2 ?_;dsimp only[BB,bd];refine aO h ao ?_;refine ⟨fun i t w'=>∃ (j:Nat) (o:List Int),j<=ts.length/\i=ee j/\ek (ts.drop j) o=ek ts []/\o.length+bo (ts.drop j)<=1000000000/\Inv w [] [cA t o] S w',
  fun i _ _=>ts.length - (intOf i).toNat,⟨0,[],aT _,rfl,rfl,by simpa using D,a.rowNil bV 1⟩,?_⟩
 intro N _ G _ _ _ _ _ _ _ w';rintro ⟨j,o,O,rfl,g,r,a⟩;refine cd ?_;refine aJ (fun B=>?_) (fun B=>?_)
 ·have m:j<ts.length:=by omega
  rw [p7 ts j m] at r;rw [ef m,ek] at g;have J:=ch (ts.drop (j+1));have M:=EY ts[j] o;refine dj a h ao af m (fun _ _=>RdT.length) fun C l=>?_;have q:=l.length;refine aE a aQ fun U w' a=>?_;refine aj a 1 rfl af (by simpa using q) rfl (by simpa using l.one) fun w' a=>?_;refine aq a 1 af rfl (by simpa using q) ?_;have a:=a.pick [true,false];refine Run.call (A:=[]) yI xQ a (Hp _ S C G o l (by omega)) fun v' I' S' w'=>?_;rintro ⟨rfl,rfl⟩ _ a;refine bL (by omega) ?_;exact ⟨⟨j+1,_,m,rfl,g,by omega,a⟩,by simp [intOf];omega⟩
 ·have:j=ts.length:=by omega
  subst this;rw [eL,ek] at g;subst g;exact ⟨_,_,_,rfl,a,Ext.refl _ _ _,rfl,rfl⟩
end
section
open Go Go.RowKit

section
variable {P:Program} {w w0:World} {X:List Nat} {L:List Item} {S:ai} {K:Value->Value->Value->World->Prop}
theorem WA {α:Type} {T Tf U ty g a E:TypeId} {k f d:Nat} {R:nA->α->Prop} {v:Value} {xs:List α} (r:Inv w0 X L S w) (h:RdSl S k R v xs) (t:dI P T=some (E,k)) (hf:cz P Tf f=some d) (B:kA P U=true)
  {i:Nat} (m:i<xs.length) (hk:∀ cs,R cs xs[i]->∃ u,cs[d]?=some u/\K (elP v (i * k)) (elQ v (i * k) d) u w) :
  Run P (sOp (.indexAddr T (.const v) (.const (ee i))) ty) w fun p w'=>Run P (sOp (.fieldAddr Tf (.const p) f) g) w' fun q j=>Run P (sOp (.load U (.const q)) a) j (K p q):=by
 obtain ⟨b,o,cap,c,E',G,rfl,C,hR⟩:=h.at_ m;obtain ⟨u,l,D⟩:=hk _ hR;refine aN t m ?_;refine ax hf ?_;refine eD B ?_ D;rw [r.cellS C];exact bf rfl d u l
end
theorem P9 {t:T} (h:fa t=true):dC t 30=true:=by
 rw [fa,bQ] at h;exact sG h.1
theorem CI:∀ {ts:List T},ts.all fa=true->de ts 30=true
 | [],_=>rfl
 | t::ts,h=>by
  rw [RE,bQ] at h;rw [de,P9 h.1,CI h.2];rfl
theorem Bz {c:C} (h:aZ c=true) (l:List Int):fh c.head l=ii c.head l/\cE c.body l=ek c.body l:=by
 simp only [aZ,bQ] at h;exact ⟨Nh _ 30 _ (sG h.2.2.1),D0 _ 30 _ (CI h.2.1)⟩
end
section
open Go Go.ChangeShapes Go.WideShapes Go.ChangeAt Go.RowKit

def QW (W:World):ai:=fun b=>W.heap[b]?
section
variable {H:Type} {enc:TypeId × Value->H} {P:Program} {W:World} {sp:Nat->Bool} {held:Bool}
theorem Tg {a:Addr} {v:Value} (h:W.cell? a=some v):∃ b o c E g,a=⟨b,o,none⟩/\W.heap[b]?=some (.cells c E g)/\c[o]?=some v:=by
 obtain ⟨b,o,s⟩:=a;simp only [World.cell?] at h;split at h
 ·rename_i c E g i
  cases s with
  | none=>exact ⟨b,o,c,E,g,rfl,i,by simpa using h⟩
  | some s=>simp at h
 ·cases h
theorem VF {b o k:Nat} {cs:nA} {c:Array Value} {E:TypeId} {g:Nat × Nat} (j:W.heap[b]?=some (.cells c E g)) (h:W.cells? 0 ⟨b,o,none⟩ k=some cs):bJ c o k=cs:=by
 unfold World.cells? at h;rw [ag (aT _)] at h;have l:cs.length=k:=by simpa using mapM_some_length h
 apply Oi;intro i;rw [bJ,wA];by_cases a:i<k
 ·rw [ag a,xy];have:=mapM_some_get h i i (by simp [a]);rw [<- this,add_lit];simp [World.cell?,j]
 ·rw [ae a,QV (by omega)]
theorem Cd {α:Type} (p:Nat->α->Prop):∀ n:Nat,(∀ i,i<n->∃ t,p i t)->∃ xs:List α,xs.length=n/\∀ i (h:i<xs.length),p i xs[i]
 | 0,_=>⟨[],rfl,fun i h=>by simp at h⟩
 | n+1,h=>by
  obtain ⟨xs,g,j⟩:=Cd p n fun i a=>h i (by omega);obtain ⟨t,l⟩:=h n (by omega);refine ⟨xs++[t],by simp [g],fun i a=>?_⟩;by_cases e:i<xs.length
  ·rw [qR e];exact j i e
  ·have:i=xs.length:=by simp at a;omega
   subst this;simp only [rQ (aY _),fB,pQ];rw [g];exact l
theorem sE {T e:TypeId} {k:Nat} (h:dI P T=some (e,k)):P.underlying T=some (.slice e)/\P.cellsOf e=k:=by
 unfold dI at h;split at h
 ·rename_i l g
  rw [fV] at h;obtain ⟨i,j,a⟩:=h;simp only [c9] at a;obtain ⟨rfl,rfl⟩:=a;exact ⟨g,by simp [Program.cellsOf,j]⟩
 ·cases h
theorem WU {α:Type} {R:nA->α->Prop} {T e:TypeId} {k j:Nat} {v:Value} {x:DataW H × List MemPlace} (Z:dI P T=some (e,k)) (q:0<k)
  (h:DataW.trod enc P W 0 sp held j T [v]=some x) (r:∀ n cs y,j=n+1->DataW.trod enc P W 0 sp held n e cs=some y->∃ t:α,R cs t):∃ xs,RdSl (QW W) k R v xs:=by
 obtain ⟨C,hk⟩:=sE Z;rcases DataW.trod_slice C h with ⟨g,_⟩|⟨a,len,cap,O,V,n,hf,g,_,_,hl,hc,Y,hE,_⟩
 ·simp only [uW,and_true] at g;subst g;exact ⟨[],none,0,rfl,aY _,aT _,.inl rfl⟩
 ·simp only [uW,and_true] at g;subst g;have M:∀ i,i<len->∃ t:α,∃ cs,W.cells? 0 (a.add (i * k)) k=some cs/\R cs t:=by
   intro i B;have:=hE i B;rw [hk,me (by omega),fi] at this;obtain ⟨cs,l,p⟩:=this;obtain ⟨t,ht⟩:=r n cs _ hf p;exact ⟨t,cs,l,ht⟩
  obtain ⟨xs,D,m⟩:=Cd _ len M;subst D;refine ⟨xs,some a,cap,rfl,hl,hc,?_⟩;by_cases h0:xs.length=0
  ·exact .inl (jM h0)
  ·obtain ⟨G,l,_⟩:=m 0 (by omega);have e0:a.add (0 * k)=a:=by rw [l5];simp [Addr.add]
   rw [e0] at l;have N:∃ u,W.cell? a=some u:=by
    unfold World.cells? at l;rw [ag (aT _)] at l;have a0:G.length=k:=by simpa using mapM_some_length l
    have:=mapM_some_get l 0 0 (by simp [q]);rw [me (by omega)] at this;have e1:a.add 0=a:=by simp [Addr.add]
    rw [e1] at this;exact ⟨_,this⟩
   obtain ⟨u,J⟩:=N;obtain ⟨b,o,c,E,fz,rfl,U,_⟩:=Tg J;refine .inr ⟨b,o,c,E,fz,rfl,U,fun i B=>?_⟩;obtain ⟨cs,p,hR⟩:=m i B;rw [add_lit] at p;rw [VF U p];exact hR
end

section
variable {H:Type} {enc:TypeId × Value->H} {W:World} {sp:Nat->Bool} {held:Bool}
theorem four {cs:nA} (h:cs.length=4):∃ a b c d,cs=[a,b,c,d]:=by
 match cs,h with
 | [a,b,c,d],_=>exact ⟨a,b,c,d,rfl⟩
end

theorem Inv.entry (W:World):Inv W [] [] (QW W) W:=Inv.start (L:=[]) (by simp) (by simp [cg]) fun b o a=>⟨a,by simp [cg]⟩
theorem Inv.same {W W':World} {L:List Item} {S:ai} (h:Inv W [] L S W') (b:Nat) (a:b<W.heap.size):W'.heap[b]?=W.heap[b]?:=h.old b a (by simp)
theorem SV {W W':World} {g:MemPlace->Prop} (l:W'.os=W.os) (m:W'.output=W.output) (h:∀ b,b<W.heap.size->W'.heap[b]?=W.heap[b]?):W.keptBut W' g:=by
 refine ⟨l,m,fun i o=>?_⟩;rw [h i o];split
 ·rename_i j a
  rw [j] at a;simp only [bj,Obj.cells.injEq] at a;obtain ⟨rfl,rfl,rfl⟩:=a;exact ⟨rfl,rfl,rfl,fun _ _=>rfl⟩
 ·rename_i j a
  rw [j] at a;simp only [bj,Obj.map.injEq] at a;obtain ⟨rfl,rfl⟩:=a;exact .inr ⟨rfl,rfl⟩
 ·rfl
end
section
open Go Go.RowKit
end
section
open Go Go.RowKit

mutual
def eqT:T->T->Bool
 | .mk k n s ks,.mk k' n' s' ks'=>decide (k=k') && (decide (n=n') && (decide (s=s') && eqL ks ks'))
def eqL:List T->List T->Bool
 | [],[]=>true
 | t::ts,u::us=>eqT t u && eqL ts us
 | _,_=>false
end
mutual
theorem Rr:∀ a b:T,eqT a b=true↔a=b
 | .mk k n s ks,.mk k' n' s' ks'=>by
  simp only [eqT,bQ,bK,DE ks ks',T.mk.injEq]
theorem DE:∀ a b:List T,eqL a b=true↔a=b
 | [],[]=>by simp [eqL]
 | [],_::_=>by simp [eqL]
 | _::_,[]=>by simp [eqL]
 | t::ts,u::us=>by
  simp only [eqL,bQ,Rr t u,DE ts us,uW]
end
theorem VX:∀ {a b:List T},a.length≠b.length->eqL a b=false:=by
 intro a b h;rw [<- Tp,DE];rintro rfl;exact h rfl
theorem ON {a b c d e:Value}:∀ (j:Nat) (v:Value),([a,b,c,d]:nA)[j]?=some v->(#[a,b,c,d,e]:Array Value)[0+j]?=some v
 | 0,_,h|1,_,h|2,_,h|3,_,h=>h
 | j+4,_,h=>by simp at h
end
section
open Go Go.RowKit
end
section
open Go Go.RowKit
section
variable {P:Program} {w w0:World} {X:List Nat} {L:List Item} {S:ai} {K:Value->World->Prop}
end

end
section
open Go Go.RowKit

theorem Part.upd {α:Type} {k:Nat} {R:bN->nA->α->Prop} {c a:Array Value} {Ls:List bN} {xs:List α} (h:Part k R c Ls xs) {i:Nat} {L':bN} {x:α} (l:R L' (bJ a (i * k) k) x)
  (g:∀ j,j≠i->bJ a (j * k) k=bJ c (j * k) k):Part k R a (Ls.set i L') (xs.set i x):=by
 refine ⟨by simp [h.1],fun j m o=>?_⟩;by_cases e:i=j
 ·subst e;rw [LF,LF];exact l
 ·rw [Rj e,Rj e,g j fun p=>e p.symm];exact h.2 j (by simpa using m) (by simpa using o)
end
section
open Go Go.RowKit

section
theorem TrC.parts {L:bN} {cs:nA} {c:C} (h:TrC L cs c):∃ kv ks L1 L2,cs=[ee c.head.kind,ee c.head.n,.string c.head.name,kv,ks]/\L=L1++L2/\TrSl 4 TrT L1 kv c.head.kids/\TrSl 4 TrT L2 ks c.body:=by
 obtain ⟨j,ks,L1,L2,rfl,rfl,g,i⟩:=h;obtain ⟨kv,rfl,_,_,_,a⟩:=TrT.iff.1 g;exact ⟨kv,ks,L1,L2,rfl,rfl,a,i⟩
end
end
section
open Go Go.RowKit

end
section
open Go Go.RowKit

theorem eJ {P:Program} {w:World} {T:TypeId} {cs:Array Value} {a:Nat} {v:Value} (h:kA P T=true) (g:cs[a]?=some v):(part T cs a).run P w=.ok v w:=by
 simp [part,(tF (w:=w) h).1,g]
section
variable {w:World} {K:Value->World->Prop}
end

structure Pd where
 name:ByteArray
 arity:Int
deriving DecidableEq
def Pd.cells (x:Pd):List Value:=[.string x.name,ee x.arity]
def Xf (t:T):Pd:=⟨t.name,t.kids.length⟩
def YV (x y:Pd):Bool:=decide (x.name=y.name) && decide (x.arity=y.arity)
end
section
open Go Go.RowKit
end
section
open Go Go.RowKit

def ZL (l:List Pd) (x:Pd):Bool:=l.any fun y=>YV x y
def ZQ (l:List Pd) (x:Pd):List Pd:=if ZL l x=true then l else l++[x]
end
section
open Go Go.RowKit

theorem Inv.lendAll {w0 w:World} {X:List Nat} {A:List Item} (M:bN) {S:ai} (h:Inv w0 X (A++bO M) S w) :
  ∃ S',Sle S S'/\Ins S' M/\Inv w0 X A S' w/\∀ B w',Inv w0 X B S' w'->Inv w0 X (B++bO M) S w':=by
 obtain ⟨S',D,q,r,G⟩:=Inv.publishAll M h;have m:=h.nd;rw [dh,mK] at m;refine ⟨S',q,r,D,fun B w' i=>⟨i.size,i.os,i.tape,i.output,i.old,fun it l=>?_,?_,fun b j=>?_,fun b o j=>⟨(i.pub b o (q b o j)).1,fun g=>?_⟩⟩⟩
 ·rcases cU.1 l with l|l
  ·exact i.its it l
  ·obtain ⟨p,t,rfl⟩:=ob.1 l;exact (i.pub _ _ (r p t)).1
 ·rw [dh,mK];refine ⟨i.nd,m.2.1,fun a C b j e=>?_⟩;subst e;obtain ⟨p,t,rfl⟩:=ln.1 j;exact (i.pub _ _ (r p t)).2 C
 ·rw [dh] at j;rcases cU.1 j with j|j
  ·exact i.new b j
  ·exact h.new b (by rw [dh];exact gy _ j)
 ·rw [dh] at g;rcases cU.1 g with g|g
  ·exact (i.pub b o (q b o j)).2 g
  ·exact (h.pub b o j).2 (by rw [dh];exact gy _ g)
theorem Inv.openRow {w0 w:World} {X:List Nat} {A:List Item} {S:ai} {v:Value} {e:TypeId} {k n:Nat} {xs:nA} (h:Inv w0 X (A++[.row v e k n xs]) S w) :
  xs.length=n * k/\((v=nx/\n=0) ∨ ∃ g cap i,v=kt g 0 n cap/\n<=cap/\cap<=maxLen/\i.size=cap * k/\i.toList.take (n * k)=xs/\Inv w0 X (A++[ei g i e]) S w):=by
 have j:w.ownsRow 0 e k v n xs:=h.its (.row v e k n xs) (by simp);obtain ⟨p,j⟩:=j;refine ⟨p,?_⟩;rcases j with hn|⟨g,cap,i,rfl,_,q,l,m,o,r⟩
 ·exact .inl hn
 ·have hf:cg (A++[Item.blk g (.cells i e)])=cg (A++[Item.row (kt g 0 n cap) e k n xs]):=by
   simp [cg,Item.foot,Value.ownBlock]
  refine .inr ⟨g,cap,i,rfl,l,m,o,r,h.size,h.os,h.tape,h.output,h.old,fun it a=>?_,by rw [hf];exact h.nd,by rw [hf];exact h.new,by rw [hf];exact h.pub⟩;rcases cU.1 a with a|a
  ·exact h.its it (gf _ a)
  ·simp at a;subst a;exact q
theorem Inv.closeRow {w0 w:World} {X:List Nat} {A:List Item} {S:ai} {g cap k n:Nat} {a:Array Value} {e:TypeId} (h:Inv w0 X (A++[ei g a e]) S w) (hn:n<=cap) (hc:cap<=maxLen) (j:a.size=cap * k) :
  Inv w0 X (A++[.row (kt g 0 n cap) e k n (a.toList.take (n * k))]) S w:=by
 have l:w.heap[g]?=some (.cells a e):=h.its (ei g a e) (by simp);have hf:cg (A++[Item.row (kt g 0 n cap) e k n (a.toList.take (n * k))])=cg (A++[Item.blk g (.cells a e)]):=by
  simp [cg,Item.foot,Value.ownBlock]
 refine ⟨h.size,h.os,h.tape,h.output,h.old,fun it i=>?_,by rw [hf];exact h.nd,by rw [hf];exact h.new,by rw [hf];exact h.pub⟩;rcases cU.1 i with i|i
 ·exact h.its it (gf _ i)
 ·simp at i;subst i;refine ⟨?_,.inr ⟨g,cap,a,rfl,aT _,l,hn,hc,j,rfl⟩⟩;rw [ig,Ox,j];exact AO (fK k hn)

end
section
open Go Go.RowKit

structure Grown {α:Type} (k:Nat) (R:bN->List Value->α->Prop) (Ls:List bN) (css:List (List Value)) (ys:List α):Prop where
 hL:Ls.length=ys.length
 hc:css.length=ys.length
 hk:∀ cs∈css,cs.length=k
 hR:∀ i (h:i<ys.length) (h1:i<Ls.length) (h2:i<css.length),R Ls[i] css[i] ys[i]
theorem Grown.nil {α:Type} (k:Nat) (R:bN->nA->α->Prop):Grown k R [] [] ([]:List α):=⟨rfl,rfl,by simp,fun i h=>by simp at h⟩
theorem Grown.snoc {α:Type} {k:Nat} {R:bN->nA->α->Prop} {Ls:List bN} {css:List (nA)} {ys:List α} (h:Grown k R Ls css ys) {L:bN} {cs:nA} {y:α} (hR:R L cs y) (g:cs.length=k) :
  Grown k R (Ls++[L]) (css++[cs]) (ys++[y]):=by
 refine ⟨by simp [h.hL],by simp [h.hc],fun c hc=>?_,fun i j o p=>?_⟩
 ·rcases cU.1 hc with hc|hc
  ·exact h.hk c hc
  ·simp at hc;subst hc;exact g
 ·have l:=h.hL;have m:=h.hc;by_cases a:i<ys.length
  ·rw [qR (by omega),qR (by omega),qR a];exact h.hR i a (by omega) (by omega)
  ·have:i=ys.length:=by simp at j;omega
   subst this;rw [rQ (by omega),rQ (by omega),rQ (by omega)];simp only [l,m,fB,pQ];exact hR
theorem iL (k:Nat):∀ (css:List (nA)) (i:Nat) (_:∀ cs∈css,cs.length=k) (h:i<css.length),(css.flatten.drop (i * k)).take k=css[i]
 | [],i,_,h=>by simp at h
 | c::css,0,hk,_=>by
  have:=hk c (bF ..);rw [gR,l5,fe,Pb (by omega),wd (by omega)];rfl
 | c::css,i+1,hk,h=>by
  have:=hk c (bF ..);rw [gR,ip,Nat.add_comm,<- Jc,List.drop_left' this];exact iL k css i (fun cs hc=>hk cs (bI _ hc)) (by simpa using h)
abbrev aB (v:Value) (e:TypeId) (k:Nat) (css:List (List Value)):Item:=.row v e k css.length css.flatten
theorem Inv.rowTree {α:Type} {w0 w:World} {X:List Nat} {A:List Item} {S:ai} {v:Value} {e:TypeId} {k:Nat} {R:bN->nA->α->Prop} {Ls:List bN} {css:List (nA)} {ys:List α}
  (h:Inv w0 X (A++(aB v e k css::bO Ls.flatten)) S w) (m:Grown k R Ls css ys):∃ L,TrSl k R L v ys/\Inv w0 X (A++bO L) S w:=by
 have t:List.Perm ((A++bO Ls.flatten)++[aB v e k css]) (A++(aB v e k css::bO Ls.flatten)):=by
  rw [cN];exact rA _ bD
 obtain ⟨N,r⟩:=(h.perm t).openRow;have j:=m.hc;have o:=m.hL;rcases r with ⟨rfl,O⟩|⟨g,cap,a,rfl,C,l,D,G,J⟩
 ·have:ys=[]:=jM (by omega);subst this;refine ⟨[],TrSl.nil (by simp [maxLen]),?_⟩;simpa [bO] using h.sub (gV _ _)
 ·by_cases M:ys=[]
  ·subst M;have:css=[]:=jM (by simpa using j);subst this;refine ⟨[],TrSl.nil l,?_⟩;simpa [bO] using h.sub (gV _ _)
  ·refine ⟨(g,.cells a e)::Ls.flatten,⟨_,cap,by rw [j],by omega,l,.inr ⟨g,a,e,Ls,rfl,rfl,o,by omega,fun i p q=>?_⟩⟩,?_⟩
   ·have B:i * k+k<=css.length * k:=by rw [<- ip];exact fK k (by omega)
    have:=iL k css i m.hk (by omega);rw [<- G,IQ,EZ,AO (by omega)] at this;rw [bJ,this];exact m.hR i p q (by omega)
   ·refine J.perm ?_;rw [cN];exact rA _ (bD (l₁:=[Item.blk g (.cells a e)]))
theorem fO (v:Value) (e:TypeId) (k:Nat) (css:List (nA)) (cs:nA):Item.row v e k (css.length+1) (css.flatten++cs)=aB v e k (css++[cs]):=by
 simp [aB]
section
variable {P:Program} {w w0:World} {X:List Nat} {L:List Item} {S:ai} {K:Value->World->Prop}
theorem dB (h:Inv w0 X L S w) {T ty e:TypeId} {k a:Nat} {z v:Value} {cs:List Bool} {css:List (nA)} (i:Nat) (xs:nA)
  (B:jX P T=some (e,k,a,z)) (g:0<k) (l:k<=65536) (C:L[i]?=some (aB v e k css)) (D:xs.length=k) (G:∀ u∈xs,u.oneCell'=true) (p:css.length+1<=4294967296) (t:a<=32768)
  {K:Value->Value->World->Prop} (hk:∀ v' w',Inv w0 X (L.set i (aB v' e k (css++[xs]))) S w'->K (.slice (some ⟨w.heap.size,0,none⟩) 1 1) v' w') :
  Run P (cf T 1 [(0,.agg xs.toArray)]) w fun u w'=>Run P (co .append #[T,T] ty cs [v,u]) w' (K u):=by
 refine pa h B (by simp [Value.cells,D]) l g fun w' q=>?_;have r:i<L.length:=(ie.1 C).1;refine fl q i xs B g (by rw [UF r];exact C) (by omega) (m:=1) (o:=0) ?_ G p t fun v' w' q=>?_
 ·intro j u J;rw [q.cellL (i:=L.length) (by rw [jV (aY _),fB];rfl)];rw [cS];simpa [Value.cells] using J
 ·refine hk _ _ ?_;rw [<- fO];rw [KX _ _ r] at q;exact q.sub (gV _ _)
end

section
theorem Gt {ts:List T} (C:∀ t∈ts,∀ (S:ai) (cs:nA),RdT S cs t->wT t<=1048576->nB Rc [.agg cs.toArray] [] S (Fv S t))
  {S:ai} {v:Value} (h:RdSl S 4 (RdT S) v ts) (O:ts.length+wL ts<=1048576):nB BW [v] [] S (RN 4 TrT S ts):=by
 intro w a;refine wE.2 ?_;dsimp only[wE,bd];refine aO h ao ?_;refine ⟨fun i t w'=>∃ (k:Nat) (Ls:List bN) (css:List (nA)),k<=ts.length/\i=ee k/\Grown 4 TrT Ls css (ts.take k)/\Inv w [] (aB t ac 4 css::bO Ls.flatten) S w',
  fun i _ _=>ts.length - (intOf i).toNat,⟨0,[],[],aT _,rfl,Grown.nil _ _,a.rowNil ac 4⟩,?_⟩
 intro U _ r _ _ _ _ _ _ _ _ _ w';rintro ⟨k,Ls,css,hk,rfl,p,a⟩;refine cd ?_;refine aJ (fun q=>?_) (fun q=>?_)
 ·have g:k<ts.length:=by omega
  have G:(ts.take k).length=k:=by simp;omega
  have J:=p.hc;refine dj a h ao af g (fun _ _=>RdT.length) fun cs j=>?_;have B:=cO g;have N:=ni B;have o:=j.length;refine aE a aQ fun D w' a=>?_;have a:=a.perm (M:=.blk D _::(aB r ac 4 css::bO Ls.flatten)) (bD (l₁:=[_]));refine aj a 0 rfl af (by simpa using o) rfl (by simpa using j.one) fun w' a=>?_;refine aq a 0 af rfl (by simpa using o) ?_;have a:Inv w [] (aB r ac 4 css::bO Ls.flatten) S w':=a.sub (jd _ _);refine Run.call0 NM Oe a (C _ B S cs j (by omega)) fun v' I' S' w'=>?_;rintro ⟨rfl,m,L,rfl,rfl,l⟩ _ a;refine dB a 0 m bi (by omega) (by omega) rfl l.length l.one (by omega) (by omega) fun v' w' a=>?_;refine bL (by omega) ?_;refine ⟨⟨k+1,Ls++[L],css++[m],g,rfl,?_,?_⟩,by simp [intOf];omega⟩
  ·rw [gt g];exact p.snoc l l.length
  ·simp only [y5,gR,sU,dk,ft];exact a
 ·have:k=ts.length:=by omega
  subst this;rw [g7] at p;obtain ⟨L,l,a⟩:=Inv.rowTree (A:=[]) a p;exact ⟨_,_,_,rfl,a,Ext.refl _ _ _,rfl,_,rfl,l⟩
theorem Ix:∀ (t:T) (S:ai) (cs:nA),RdT S cs t->wT t<=1048576->nB Rc [.agg cs.toArray] [] S (Fv S t):=by
 refine T.ind fun k n s ks B S cs h C=>?_;intro w g;obtain ⟨kv,rfl,o,p,q,i⟩:=RdT.iff.1 h;simp only [T.name,T.kids,T.kind,T.n] at o p q i ⊢;simp only [wT] at C;refine Ok.2 ?_;dsimp only[Ok,bd];refine bH g fun D w' g=>?_;refine aE g aQ fun G w' g=>?_;refine ah g 0 rfl az aw rfl ?_;refine Run.call0 yJ y0 g (Gt B i (by omega)) fun v' I' S' w'=>?_;rintro ⟨rfl,L,rfl,m⟩ _ g;have l:v'.cells=#[v']/\v'.oneCell'=true:=by obtain ⟨a,cap,rfl,_⟩:=m;exact ⟨rfl,rfl⟩
 refine cq g 0 rfl az aw rfl l.1 l.2 fun w' g=>?_;refine aq g 0 af rfl rfl ?_;refine aj g 1 rfl af rfl rfl ?_ fun w' g=>?_
 ·intro u r;have j:u∈([ee k,ee n,.string s,v']:nA):=r;simp at j;rcases j with rfl|rfl|rfl|rfl <;> first|rfl|exact l.2
 refine be g 1 af rfl rfl ?_;refine ⟨_,_,_,rfl,g.sub (fj [_,_] (bO L)),Ext.refl _ _ _,rfl,[ee k,ee n,.string s,v'],L,rfl,rfl,TrT.iff.2 ⟨v',rfl,o,p,q,m⟩⟩
theorem G4 {ts:List T} {S:ai} {v:Value} (h:RdSl S 4 (RdT S) v ts) (a:ts.length+wL ts<=1048576):nB BW [v] [] S (RN 4 TrT S ts):=
 Gt (fun t _=>Ix t) h a
end
end
section
open Go Go.RowKit
section
variable {w:World} {K:Value->World->Prop}
theorem lg {a b:Int} {s:ByteArray} {k v:Value} (g:∃ p n m,v=.slice p n m) (hk:K (.agg #[ee a,ee b,.string s,k,v]) w):Run Tryz.prog (cr ad [(0,.agg #[ee a,ee b,.string s,k]),(1,v)]) w K:=by
 obtain ⟨p,n,m,rfl⟩:=g;refine Run.of (v:=.agg #[ee a,ee b,.string s,k,.slice p n m]) (w':=w) ?_ hk;unfold cr;rw [Sem.run_bind,run_build w ad _ #[ee a,ee b,.string s,k,.slice p n m] (by kernel_rfl),Result.andThen_ok];rfl
theorem n9 {a b:Int} {s:ByteArray} {k:Value} (hk:K (.agg #[ee a,ee b,.string s,k,nx]) w):Run Tryz.prog (cr ad [(0,.agg #[ee a,ee b,.string s,k])]) w K:=by
 refine Run.of (v:=.agg #[ee a,ee b,.string s,k,nx]) (w':=w) ?_ hk;unfold cr;rw [Sem.run_bind,run_build w ad _ #[ee a,ee b,.string s,k,nx] (by kernel_rfl),Result.andThen_ok];rfl
theorem jO {a b:Int} {s:ByteArray} (hk:K (.agg #[ee a,ee b,.string s,nx]) w):Run Tryz.prog (cr ac [(0,ee a),(1,ee b),(2,.string s)]) w K:=by
 refine Run.of (v:=.agg #[ee a,ee b,.string s,nx]) (w':=w) ?_ hk;unfold cr;rw [Sem.run_bind,run_build w ac _ #[ee a,ee b,.string s,nx] (by kernel_rfl),Result.andThen_ok];rfl
end
section
def ph (B B2 B2':Item) (M1 M2:bN) (d2 d5 d7:Bool):List Item:=B::(match d7 with|true=>B2'|false=>B2)::((match d2 with|true=>bO M1|false=>[])++(match d5 with|true=>bO M2|false=>[]))
theorem rv {c:C} {S:ai} {cs:nA} (h:RdC S cs c) (hw:wC c<=1048576):nB G5 [.agg cs.toArray] [] S (W9 S c):=by
 intro w g;obtain ⟨hd,ks,rfl,h1,h2⟩:=h;have a2:=h1;obtain ⟨kv,rfl,g1,g2,g3,g4⟩:=RdT.iff.1 h1;unfold wC at hw;refine tj.2 ?_;dsimp only[tj,bd];refine bH g fun M w' g=>?_;refine aE g cI fun B w' g=>?_;have g:Inv w [] [ei M #[ee c.head.kind,ee c.head.n,.string c.head.name,kv,ks] ad,ei B eu ad] S w':=g;refine ⟨fun D x9 l x7 x6 x5 x4 x3 G=>Fx D 0 [x3=hV M,x4=.agg (ku c.head kv),True,x6=kh M 4,x7=ks,True,True,True]/\∃ M1 M2 i,(D 2=true->x5=.agg (ku c.head i)/\TrT M1 (kB c.head i) c.head)/\(D 5=true->TrSl 4 TrT M2 l c.body)/\(D 6=true->x9=.agg #[ee c.head.kind,ee c.head.n,.string c.head.name,i,l])/\(D 5=true->D 2=true)/\(D 6=true->D 5=true)/\(D 7=true->D 6=true)/\Inv w [] (ph (ei M #[ee c.head.kind,ee c.head.n,.string c.head.name,kv,ks] ad) (ei B eu ad) (ei B #[ee c.head.kind,ee c.head.n,.string c.head.name,i,l] ad) M1 M2 (D 2) (D 5) (D 7)) S G,⟨Fx.nil _ _,⟨[],[],undef,aU,aU,aU,aU,aU,aU,g.draw⟩⟩,⟨?_,?_,?_,?_,?_,?_,?_,?_,trivial⟩,?_⟩;all_goals (intro D J;intros;rename_i x9 l x7 x6 x5 x4 x3 G O;have j:=O.1;obtain ⟨⟨cF,ci,cG,cD,bU,cH,cj,cR,_⟩,⟨M1,M2,i,m,o,p,t,q,r,g⟩⟩:=O)
 ·refine ax cV ?_;exact ⟨j.set 0 rfl,⟨M1,M2,i,m,o,p,t,q,r,g⟩⟩
 ·obtain rfl:=cF ‹_›;refine gd g 0 (kB c.head kv) af rfl rfl ON ?_;exact ⟨j.set 1 rfl,⟨M1,M2,i,m,o,p,t,q,r,g⟩⟩
 ·obtain rfl:=ci ‹_›;have f5:D 5=false:=bA.2 fun h=>by rw [t h] at J;cases J
  have N:D 6=false:=bA.2 fun h=>by rw [q h] at f5;cases f5
  have V:D 7=false:=bA.2 fun h=>by rw [r h] at N;cases N
  rw [J,f5,V] at g;refine Run.call0 NM Oe g (Ix c.head S _ a2 (by omega)) fun v' I' S G=>?_;rintro ⟨rfl,a4,M1,rfl,rfl,U⟩ _ g;obtain ⟨i,rfl,_⟩:=TrT.iff.1 U;have m:aF D 2 2=true->Value.agg (ku c.head i)=Value.agg (ku c.head i)/\TrT M1 (kB c.head i) c.head:=fun _=>⟨rfl,U⟩
  have p:=fun (h:D 6=true)=>(absurd h (by rw [N];decide):x9=.agg #[ee c.head.kind,ee c.head.n,.string c.head.name,i,l])
  have t:=fun (_:aF D 2 5=true)=>(rfl:aF D 2 2=true)
  have g:Inv w [] (ph (ei M #[ee c.head.kind,ee c.head.n,.string c.head.name,kv,ks] ad) (ei B eu ad) (ei B #[ee c.head.kind,ee c.head.n,.string c.head.name,i,l] ad) M1 M2 true (D 5) (D 7)) S G:=by
   rw [f5,V];simpa [ph] using g
  exact ⟨j.set 2 (by first|assumption|trivial),⟨M1,M2,i,m,o,p,t,q,r,g⟩⟩
 ·refine ax bS ?_;exact ⟨j.set 3 rfl,⟨M1,M2,i,m,o,p,t,q,r,g⟩⟩
 ·obtain rfl:=cD ‹_›;refine aG g 0 aw rfl rfl ?_;exact ⟨j.set 4 (by first|assumption|trivial),⟨M1,M2,i,m,o,p,t,q,r,g⟩⟩
 ·have Dr:=bU ‹_›;have N:D 6=false:=bA.2 fun h=>by rw [q h] at J;cases J
  have V:D 7=false:=bA.2 fun h=>by rw [r h] at N;cases N
  rw [J,‹D 2=true›,V] at g;refine Run.call0 yJ y0 g (by rw [Dr];exact G4 h2 (by omega)) fun v' I' S G=>?_;rintro ⟨rfl,M2,rfl,a0⟩ _ g;have o:=fun (_:aF D 5 5=true)=>a0;have p:=fun (h:D 6=true)=>(absurd h (by rw [N];decide):x9=.agg #[ee c.head.kind,ee c.head.n,.string c.head.name,i,v'])
  have q:=fun (_:aF D 5 6=true)=>(rfl:aF D 5 5=true)
  have t:=fun (_:aF D 5 5=true)=>‹D 2=true›;have g:Inv w [] (ph (ei M #[ee c.head.kind,ee c.head.n,.string c.head.name,kv,ks] ad) (ei B eu ad) (ei B #[ee c.head.kind,ee c.head.n,.string c.head.name,i,v'] ad) M1 M2 (D 2) true (D 7)) S G:=by
   rw [‹D 2=true›,V];simpa [ph] using g
  exact ⟨j.set 5 (by first|assumption|trivial),⟨M1,M2,i,m,o,p,t,q,r,g⟩⟩
 ·have Vf:=cG ‹_›;have zM:=cH ‹_›;have Y:=(m ‹D 2=true›).1;subst Y;refine lg (by obtain ⟨a8,a3,a1,_⟩:=o ‹D 5=true›;exact ⟨_,_,_,a1⟩) ?_;have p:aF D 6 6=true->Value.agg #[ee c.head.kind,ee c.head.n,.string c.head.name,i,l]=Value.agg #[ee c.head.kind,ee c.head.n,.string c.head.name,i,l]:=fun _=>rfl;have r:=fun (_:aF D 6 7=true)=>(rfl:aF D 6 6=true)
  have q:=fun (_:aF D 6 6=true)=>‹D 5=true›;exact ⟨j.set 6 (by first|assumption|trivial),⟨M1,M2,i,m,o,p,t,q,r,g⟩⟩
 ·have vV:=cj ‹_›;have q6:=p ‹D 6=true›;subst q6;have Y:=(m ‹D 2=true›).2;have q5:=o ‹D 5=true›;rw [J,‹D 2=true›,‹D 5=true›] at g;refine aj g 1 rfl aK rfl rfl ?_ fun G g=>?_
  ·intro u hu;have Z:u∈([ee c.head.kind,ee c.head.n,.string c.head.name,i,l]:nA):=hu;simp at Z;have o1:i.oneCell'=true:=Y.one i (by simp);have o2:l.oneCell'=true:=by obtain ⟨a,cap,rfl,_⟩:=q5;rfl
   rcases Z with rfl|rfl|rfl|rfl|rfl <;> first|rfl|exact o1|exact o2
  have r:=fun (_:aF D 7 7=true)=>‹D 6=true›;have g:Inv w [] (ph (ei M #[ee c.head.kind,ee c.head.n,.string c.head.name,kv,ks] ad) (ei B eu ad) (ei B #[ee c.head.kind,ee c.head.n,.string c.head.name,i,l] ad) M1 M2 (D 2) (D 5) true) S G:=by
   rw [‹D 2=true›,‹D 5=true›];exact g
  exact ⟨j.set 7 trivial,⟨M1,M2,i,m,o,p,t,q,r,g⟩⟩
 obtain ⟨rfl,rfl,Vf,rfl,Dr,zM,vV,_,_⟩:=j.all;have Yd:D 2=true:=by assumption
 have UE:D 5=true:=by assumption
 have nI:D 7=true:=by assumption
 clear j cF ci cG cD bU cH cj cR;have Y:=(m Yd).2;have q5:=o UE;rw [Yd,UE,nI] at g;refine be g 1 aK rfl rfl ?_;refine ⟨_,_,_,rfl,g.sub (fj [_,_] (bO M1++bO M2)),Ext.refl _ _ _,rfl,_,M1++M2,rfl,by rw [ft],_,l,M1,M2,rfl,rfl,Y,q5⟩
end
end
section
open Go Go.RowKit
theorem RdC.one {S:ai} {cs:nA} {c:C} (h:RdC S cs c):∀ u∈cs,u.oneCell'=true:=by
 obtain ⟨j,ks,rfl,i,a,cap,rfl,_⟩:=h;intro u g;rcases cU.1 g with g|g
 ·exact i.one u g
 ·simp at g;subst g;rfl
section
theorem Inv.rowSlice {w0 w:World} {X:List Nat} {L:List Item} {S:ai} {v:Value} {e:TypeId} {k n:Nat} {xs:nA} (h:Inv w0 X L S w) (i:Nat) (j:L[i]?=some (.row v e k n xs)):∃ a m c,v=.slice a m c:=by
 have l:w.ownsRow 0 e k v n xs:=h.its (.row v e k n xs) (f0 j);rcases l.2 with ⟨rfl,_⟩|⟨g,cap,o,rfl,_⟩
 ·exact ⟨_,_,_,rfl⟩
 ·exact ⟨_,_,_,rfl⟩
def bC (B1 B2 B3 B3' r r':Item) (rest:List Item) (M:bN) (B27:Item) (d7 d8 d9 d11:Bool):List Item:=
 B1::B2::(match d11 with|true=>B3'|false=>B3)::(match d9 with|true=>r'|false=>r)::(rest++((match d7 with|true=>bO M|false=>[])++(match d8 with|true=>[B27]|false=>[])))

theorem jW:∀ (t:T) (S:ai) (cs:nA),RdT S cs t->wT t<=1048576->nB wh [.agg cs.toArray] [] S (Fv S t):=by
 refine T.ind fun k n s ks ih S cs h hw=>?_;intro w g;obtain ⟨kv,rfl,h1,h2,hs,a0⟩:=RdT.iff.1 h;simp only [T.name,T.kids,T.kind,T.n] at h1 h2 hs a0 ⊢;simp only [wT] at hw;refine nQ.2 ?_;dsimp only[nQ,bd];refine bH g fun b1 w' g=>?_;refine aE g aQ fun b2 w' g=>?_;refine ah g 0 rfl aW au rfl ?_;refine ah g 0 rfl aR au rfl ?_;refine ah g 0 rfl bu aV rfl ?_;refine jO ?_;refine aE g aQ fun b3 w' g=>?_;refine aj g 2 rfl af rfl rfl (by simp [Value.oneCell']) fun w' g=>?_;have g:=g.rowNil ac 4;refine ⟨fun i w'=>∃ (j:Nat) (l:Value) (Ls:List bN) (css:List (nA)),j<=ks.length/\i=ee j/\Grown 4 TrT Ls css (ks.take j)/\
   Inv w [] (ei b1 #[ee k,ee n,.string s,kv] ac::.blk b2 (.cells et ac)::.blk b3 (.cells #[ee k,ee n,.string s,l] ac)::aB l ac 4 css::bO Ls.flatten) S w',
  fun i _=>ks.length - (intOf i).toNat,⟨0,_,[],[],aT _,rfl,Grown.nil _ _,g⟩,?_⟩
 intro t4 _ _ _ _ _ _ _ _ _ _ _ _ _ _ _ _ _ _ w';rintro ⟨j,l,Ls,css,hj,rfl,hg,g⟩;refine ah g 0 rfl az aw rfl ?_;refine aO a0 ao ?_;refine cd ?_;refine aJ (fun a6=>?_) (fun a6=>?_)
 ·have V:j<ks.length:=by omega
  have a9:(ks.take j).length=j:=by simp;omega
  have b0:=hg.hc;have hm:=cO V;have b4:=ni hm;obtain ⟨b,o,cap,c,E,fz,rfl,hS,hR⟩:=a0.at_ V;refine ⟨fun D wz O BJ rP ja oO rj pr oM lT mY w_=>Fx D 0 [mY=kh b3 3,lT=l,oM=kh b1 3,pr=kt b o (ks).length cap,rj=ee j,oO=kh b (o+j * 4),ja=.agg (bJ c (o+j * 4) 4).toArray,True,True,True,wz=kh b3 3,True]/\∃ M a r,(D 7=true->rP=.agg a.toArray/\TrT M a (ks)[j])/\(D 8=true->BJ=kt r 0 1 1)/\(D 8=true->D 7=true)/\(D 9=true->D 8=true)/\(D 11=true->D 9=true)/\(D 11=true->D 1=true)/\Inv w [] (bC (ei b1 #[ee k,ee n,.string s,kt b o ks.length cap] ac) (ei b2 et ac) (ei b3 #[ee k,ee n,.string s,l] ac) (ei b3 #[ee k,ee n,.string s,O] ac) (aB l ac 4 css) (aB O ac 4 (css++[a])) (bO Ls.flatten) M (ei r a.toArray ac) (D 7) (D 8) (D 9) (D 11)) S w_,⟨Fx.nil _ _,⟨[],[],0,aU,aU,aU,aU,aU,aU,by simpa [bC,bO] using g.draw⟩⟩,⟨?_,?_,?_,?_,?_,?_,?_,?_,?_,?_,?_,?_,trivial⟩,?_⟩;all_goals (intro D Y;intros;rename_i wz O BJ rP ja oO rj pr oM lT mY w_ a2;have q:=a2.1;obtain ⟨⟨cF,ci,cG,cD,bU,cH,cj,cR,dJ,dQ,cJ,dv,_⟩,⟨M,a,r,C,U,J,G,p,N,g⟩⟩:=a2)
  ·refine ax az ?_;exact ⟨q.set 0 rfl,⟨M,a,r,C,U,J,G,p,N,g⟩⟩
  ·obtain rfl:=cF ‹_›;have B:D 11=false:=bA.2 fun h=>by rw [N h] at Y;cases Y
   refine aG (b:=b3) g 2 (c:=(#[ee k,ee n,.string s,l])) aw (by rw [B];rfl) rfl ?_;have N:=fun (_:aF D 1 11=true)=>(rfl:aF D 1 1=true)
   exact ⟨q.set 1 rfl,⟨M,a,r,C,U,J,G,p,N,g⟩⟩
  ·refine ax az ?_;exact ⟨q.set 2 rfl,⟨M,a,r,C,U,J,G,p,N,g⟩⟩
  ·obtain rfl:=cG ‹_›;refine aG g 0 aw rfl rfl ?_;exact ⟨q.set 3 rfl,⟨M,a,r,C,U,J,G,p,N,g⟩⟩
  ·exact ⟨q.set 4 rfl,⟨M,a,r,C,U,J,G,p,N,g⟩⟩
  ·obtain rfl:=cD ‹_›;obtain rfl:=bU ‹_›;refine aN ao V ?_;exact ⟨q.set 5 rfl,⟨M,a,r,C,U,J,G,p,N,g⟩⟩
  ·obtain rfl:=cH ‹_›;refine eE af hR.length (fun j v hj=>by rw [g.cellS hS];exact bf rfl j v hj) ?_;exact ⟨q.set 6 rfl,⟨M,a,r,C,U,J,G,p,N,g⟩⟩
  ·obtain rfl:=cj ‹_›;have f8:D 8=false:=bA.2 fun h=>by rw [J h] at Y;cases Y
   have f9:D 9=false:=bA.2 fun h=>by rw [G h] at f8;cases f8
   have B:D 11=false:=bA.2 fun h=>by rw [p h] at f9;cases f9
   rw [Y,f8,f9,B] at g;refine Run.call0 iC iG g (ih _ (cO V) S _ hR (by omega)) fun v' I' S w_=>?_;rintro ⟨rfl,a,M,rfl,rfl,Z⟩ _ g;have C:aF D 7 7=true->Value.agg a.toArray=Value.agg a.toArray/\TrT M a (ks)[j]:=fun _=>⟨rfl,Z⟩
   have J:=fun (_:aF D 7 8=true)=>(rfl:aF D 7 7=true)
   have g:Inv w [] (bC (ei b1 #[ee k,ee n,.string s,kt b o ks.length cap] ac) (ei b2 et ac) (ei b3 #[ee k,ee n,.string s,l] ac) (ei b3 #[ee k,ee n,.string s,O] ac) (aB l ac 4 css) (aB O ac 4 (css++[a])) (bO Ls.flatten) M (ei r a.toArray ac) true (D 8) (D 9) (D 11)) S w_:=by
    rw [f8,f9,B];simpa [bC] using g
   exact ⟨q.set 7 (by first|assumption|trivial),⟨M,a,r,C,U,J,G,p,N,g⟩⟩
  ·have Ch:=cR ‹_›;have f9:D 9=false:=bA.2 fun h=>by rw [G h] at Y;cases Y
   have B:D 11=false:=bA.2 fun h=>by rw [p h] at f9;cases f9
   obtain ⟨q7,Z⟩:=C ‹D 7=true›;subst q7;rw [‹D 7=true›,Y,f9,B] at g;refine eO g bi (by simp [Value.cells,Z.length]) (by omega) (by omega) fun r w_ g=>?_;have C:aF D 8 7=true->Value.agg a.toArray=Value.agg a.toArray/\TrT M a (ks)[j]:=fun _=>⟨rfl,Z⟩
   have U:=fun (_:aF D 8 8=true)=>(rfl:Value.slice (some ⟨r,0,none⟩) 1 1=_)
   have J:=fun (_:aF D 8 8=true)=>‹D 7=true›;have G:=fun (_:aF D 8 9=true)=>(rfl:aF D 8 8=true)
   have g:Inv w [] (bC (ei b1 #[ee k,ee n,.string s,kt b o ks.length cap] ac) (ei b2 et ac) (ei b3 #[ee k,ee n,.string s,l] ac) (ei b3 #[ee k,ee n,.string s,O] ac) (aB l ac 4 css) (aB O ac 4 (css++[a])) (bO Ls.flatten) M (ei r a.toArray ac) (D 7) true (D 9) (D 11)) S w_:=by
    rw [‹D 7=true›,f9,B];simpa [bC,Value.cells] using g
   exact ⟨q.set 8 (by first|assumption|trivial),⟨M,a,r,C,U,J,G,p,N,g⟩⟩
  ·obtain rfl:=ci ‹_›;have z4:=dJ ‹_›;have B:D 11=false:=bA.2 fun h=>by rw [p h] at Y;cases Y
   have q8:=U ‹D 8=true›;subst q8;obtain ⟨_,Z⟩:=C ‹D 7=true›;rw [‹D 7=true›,‹D 8=true›,Y,B] at g;have a3:((bC (ei b1 #[ee k,ee n,.string s,kt b o ks.length cap] ac) (ei b2 et ac) (ei b3 #[ee k,ee n,.string s,lT] ac) (ei b3 #[ee k,ee n,.string s,O] ac) (aB lT ac 4 css) (aB O ac 4 (css++[a])) (bO Ls.flatten) M (ei r a.toArray ac) true true false false))[4+(bO Ls.flatten).length+(bO M).length]?=some (ei r a.toArray ac):=by
    have e4:4+(bO Ls.flatten).length+(bO M).length=((bO Ls.flatten).length+(bO M).length)+1+1+1+1:=by omega
    rw [e4];simp only [bC,mG];rw [jV (by omega),qx,jV (aY _),fB];rfl
   refine fl g 3 a bi (by omega) rfl (by rw [Z.length]) (m:=1) (o:=0) ?_ Z.one (by omega) (by omega) fun v' w_ g=>?_
   ·intro i u hi;rw [g.cellL a3,cS];simpa using hi
   rw [fO] at g;have G:=fun (_:aF D 9 9=true)=>‹D 8=true›;have p:=fun (_:aF D 9 11=true)=>(rfl:aF D 9 9=true)
   have g:Inv w [] (bC (ei b1 #[ee k,ee n,.string s,kt b o ks.length cap] ac) (ei b2 et ac) (ei b3 #[ee k,ee n,.string s,lT] ac) (ei b3 #[ee k,ee n,.string s,v'] ac) (aB lT ac 4 css) (aB v' ac 4 (css++[a])) (bO Ls.flatten) M (ei r a.toArray ac) (D 7) (D 8) true (D 11)) S w_:=by
    rw [‹D 7=true›,‹D 8=true›,B];exact g
   exact ⟨q.set 9 (by first|assumption|trivial),⟨M,a,r,C,U,J,G,p,N,g⟩⟩
  ·refine ax az ?_;exact ⟨q.set 10 rfl,⟨M,a,r,C,U,J,G,p,N,g⟩⟩
  ·obtain rfl:=cJ ‹_›;have Ds:=dQ ‹_›;rw [‹D 7=true›,‹D 8=true›,‹D 9=true›,Y] at g;obtain ⟨va,vn,vc,a1⟩:=Inv.rowSlice g 3 rfl;refine eV g 2 (n:=1) (by rw [a1];rfl) (by decide +kernel) rfl (by simp) (by rw [a1];simp [Value.cells,Value.oneCell']) fun w_ g=>?_;have a4:Value.cells O=#[O]:=by rw [a1];rfl
   rw [a4] at g;have N:=fun (_:aF D 11 11=true)=>‹D 1=true›;have p:=fun (_:aF D 11 11=true)=>‹D 9=true›;have g:Inv w [] (bC (ei b1 #[ee k,ee n,.string s,kt b o ks.length cap] ac) (ei b2 et ac) (ei b3 #[ee k,ee n,.string s,l] ac) (ei b3 #[ee k,ee n,.string s,O] ac) (aB l ac 4 css) (aB O ac 4 (css++[a])) (bO Ls.flatten) M (ei r a.toArray ac) (D 7) (D 8) (D 9) true) S w_:=by
    rw [‹D 7=true›,‹D 8=true›,‹D 9=true›];exact g
   exact ⟨q.set 11 trivial,⟨M,a,r,C,U,J,G,p,N,g⟩⟩
  obtain ⟨rfl,rfl,rfl,rfl,rfl,rfl,rfl,Ch,z4,Ds,rfl,_,_⟩:=q.all;have nI:D 7=true:=by assumption
  have H7:D 8=true:=by assumption
  have Jw:D 9=true:=by assumption
  have qb:D 11=true:=by assumption
  clear q cF ci cG cD bU cH cj cR dJ dQ cJ dv;obtain ⟨_,Z⟩:=C nI;rw [nI,H7,Jw,qb] at g;refine bL (by omega) ?_;refine ⟨⟨j+1,O,Ls++[M],css++[a],V,rfl,?_,?_⟩,by simp [intOf];omega⟩
  ·rw [gt V];exact hg.snoc Z Z.length
  ·simp only [y5,gR,sU,dk,ft];refine g.sub ?_;simp only [bC];rw [<- cN];exact (((gV _ _).cons_cons _).cons_cons _).cons_cons _ |>.cons_cons _
 ·have:j=ks.length:=by omega
  subst this;rw [g7] at hg;obtain ⟨va,vn,vc,a7⟩:=g.rowSlice 3 rfl;have a8:l.oneCell'=true:=by rw [a7];rfl
  refine aq g 2 af rfl rfl ?_;refine aj g 1 rfl af rfl rfl ?_ fun w' g=>?_
  ·intro u hu;have a5:u∈([ee k,ee n,.string s,l]:nA):=hu;simp at a5;rcases a5 with rfl|rfl|rfl|rfl <;> first|rfl|exact a8
  refine be g 1 af rfl rfl ?_;have g:Inv w [] ([]++(aB l ac 4 css::bO Ls.flatten)) S w':=g.sub (fj [_,_,_] _);obtain ⟨L,Z,g⟩:=Inv.rowTree g hg;exact ⟨_,_,_,rfl,g,Ext.refl _ _ _,rfl,_,L,rfl,rfl,TrT.iff.2 ⟨l,rfl,h1,h2,hs,Z⟩⟩
end
end
section
open Go Go.RowKit
section
theorem xp {c0:C} {S:ai} {cs:nA} (h:RdC S cs c0) (hw:wC c0<=1048576):nB Es [.agg cs.toArray] [] S (W9 S c0):=by
 intro w a;obtain ⟨hd,ks,rfl,h1,h2⟩:=h;have a9:=h1;obtain ⟨kv,rfl,g1,g2,g3,g4⟩:=RdT.iff.1 h1;unfold wC at hw;refine nK.2 ?_;dsimp only[nK,bd];refine bH a fun b1 w' a=>?_;refine aE a cI fun b2 w' a=>?_;refine ax cV ?_;refine gd a 0 (kB c0.head kv) af rfl rfl ON ?_;refine Run.call0 iC iG a (jW _ S _ a9 (by omega)) fun v' I' S w'=>?_;rintro ⟨rfl,b4,N,rfl,rfl,a2⟩ _ a;obtain ⟨t,rfl,_⟩:=TrT.iff.1 a2;refine n9 ?_;refine aE a cI fun b3 w' a=>?_;have a:=a.perm (M:=.blk b1 _::.blk b2 _::.blk b3 _::bO N) (((bD (l₁:=[_])).cons _).cons _);refine aj a 2 rfl aK rfl rfl ?_ fun w' a=>?_
 ·intro u hu;have a0:u∈([ee c0.head.kind,ee c0.head.n,.string c0.head.name,t,nx]:nA):=hu;simp at a0;have o1:t.oneCell'=true:=a2.one t (by simp);rcases a0 with rfl|rfl|rfl|rfl|rfl <;> first|rfl|exact o1
 have a:=a.rowNil ac 4;have a:=a.perm (M:=ei b1 #[ee c0.head.kind,ee c0.head.n,.string c0.head.name,kv,ks] ad::.blk b2 (.cells eu ad)::.blk b3 (.cells #[ee c0.head.kind,ee c0.head.n,.string c0.head.name,t,nx] ad)::aB (nx) ac 4 []::bO N) ((((bD (l₁:=[_])).cons _).cons _).cons _);refine ⟨fun i w'=>∃ (j:Nat) (l:Value) (Ls:List bN) (css:List (nA)),j<=c0.body.length/\i=ee j/\Grown 4 TrT Ls css (c0.body.take j)/\
   Inv w [] (ei b1 #[ee c0.head.kind,ee c0.head.n,.string c0.head.name,kv,ks] ad::.blk b2 (.cells eu ad)::.blk b3 (.cells #[ee c0.head.kind,ee c0.head.n,.string c0.head.name,t,l] ad)::aB l ac 4 css::bO (N::Ls).flatten) S w',
  fun i _=>c0.body.length - (intOf i).toNat,⟨0,_,[],[],aT _,rfl,Grown.nil _ _,by simp only [gR,sU,dk];exact a⟩,?_⟩
 intro t4 _ _ _ _ _ _ _ _ _ _ _ _ _ _ _ _ _ _ w';rintro ⟨j,l,Ls,css,hj,rfl,hg,a⟩;refine ah a 0 rfl bS aw rfl ?_;refine aO h2 ao ?_;refine cd ?_;refine aJ (fun a7=>?_) (fun a7=>?_)
 ·have a1:j<c0.body.length:=by omega
  have b5:(c0.body.take j).length=j:=by simp;omega
  have b6:=hg.hc;have hm:=cO a1;have b7:=ni hm;obtain ⟨b,o,cap,c,E,fz,rfl,hS,hR⟩:=h2.at_ a1;refine ⟨fun D rP V oO rj pr oM lT mY oX lS p8 w_=>Fx D 0 [p8=kh b3 4,lS=l,oX=kh b1 4,mY=kt b o (c0.body).length cap,lT=ee j,oM=kh b (o+j * 4),pr=.agg (bJ c (o+j * 4) 4).toArray,True,True,True,rP=kh b3 4,True]/\∃ M g r,(D 7=true->rj=.agg g.toArray/\TrT M g (c0.body)[j])/\(D 8=true->oO=kt r 0 1 1)/\(D 8=true->D 7=true)/\(D 9=true->D 8=true)/\(D 11=true->D 9=true)/\(D 11=true->D 1=true)/\Inv w [] (bC (ei b1 #[ee c0.head.kind,ee c0.head.n,.string c0.head.name,kv,kt b o c0.body.length cap] ad) (ei b2 eu ad) (ei b3 #[ee c0.head.kind,ee c0.head.n,.string c0.head.name,t,l] ad) (ei b3 #[ee c0.head.kind,ee c0.head.n,.string c0.head.name,t,V] ad) (aB l ac 4 css) (aB V ac 4 (css++[g])) (bO (N::Ls).flatten) M (ei r g.toArray ac) (D 7) (D 8) (D 9) (D 11)) S w_,⟨Fx.nil _ _,⟨[],[],0,aU,aU,aU,aU,aU,aU,by simpa [bC,bO] using a.draw⟩⟩,⟨?_,?_,?_,?_,?_,?_,?_,?_,?_,?_,?_,?_,trivial⟩,?_⟩;all_goals (intro D Z;intros;rename_i rP V oO rj pr oM lT mY oX lS p8 w_ a4;have q:=a4.1;obtain ⟨⟨cF,ci,cG,cD,bU,cH,cj,cR,dJ,dQ,cJ,dv,_⟩,⟨M,g,r,G,Y,O,J,p,U,a⟩⟩:=a4)
  ·refine ax bS ?_;exact ⟨q.set 0 rfl,⟨M,g,r,G,Y,O,J,p,U,a⟩⟩
  ·obtain rfl:=cF ‹_›;have B:D 11=false:=bA.2 fun h=>by rw [U h] at Z;cases Z
   refine aG (b:=b3) a 2 (c:=(#[ee c0.head.kind,ee c0.head.n,.string c0.head.name,t,l])) aw (by rw [B];rfl) rfl ?_;have U:=fun (_:aF D 1 11=true)=>(rfl:aF D 1 1=true)
   exact ⟨q.set 1 rfl,⟨M,g,r,G,Y,O,J,p,U,a⟩⟩
  ·refine ax bS ?_;exact ⟨q.set 2 rfl,⟨M,g,r,G,Y,O,J,p,U,a⟩⟩
  ·obtain rfl:=cG ‹_›;refine aG a 0 aw rfl rfl ?_;exact ⟨q.set 3 rfl,⟨M,g,r,G,Y,O,J,p,U,a⟩⟩
  ·exact ⟨q.set 4 rfl,⟨M,g,r,G,Y,O,J,p,U,a⟩⟩
  ·obtain rfl:=cD ‹_›;obtain rfl:=bU ‹_›;refine aN ao a1 ?_;exact ⟨q.set 5 rfl,⟨M,g,r,G,Y,O,J,p,U,a⟩⟩
  ·obtain rfl:=cH ‹_›;refine eE af hR.length (fun j v hj=>by rw [a.cellS hS];exact bf rfl j v hj) ?_;exact ⟨q.set 6 rfl,⟨M,g,r,G,Y,O,J,p,U,a⟩⟩
  ·obtain rfl:=cj ‹_›;have f8:D 8=false:=bA.2 fun h=>by rw [O h] at Z;cases Z
   have f9:D 9=false:=bA.2 fun h=>by rw [J h] at f8;cases f8
   have B:D 11=false:=bA.2 fun h=>by rw [p h] at f9;cases f9
   rw [Z,f8,f9,B] at a;refine Run.call0 iC iG a (jW _ S _ hR (by omega)) fun v' I' S w_=>?_;rintro ⟨rfl,g,M,rfl,rfl,hT⟩ _ a;have G:aF D 7 7=true->Value.agg g.toArray=Value.agg g.toArray/\TrT M g (c0.body)[j]:=fun _=>⟨rfl,hT⟩
   have O:=fun (_:aF D 7 8=true)=>(rfl:aF D 7 7=true)
   have a:Inv w [] (bC (ei b1 #[ee c0.head.kind,ee c0.head.n,.string c0.head.name,kv,kt b o c0.body.length cap] ad) (ei b2 eu ad) (ei b3 #[ee c0.head.kind,ee c0.head.n,.string c0.head.name,t,l] ad) (ei b3 #[ee c0.head.kind,ee c0.head.n,.string c0.head.name,t,V] ad) (aB l ac 4 css) (aB V ac 4 (css++[g])) (bO (N::Ls).flatten) M (ei r g.toArray ac) true (D 8) (D 9) (D 11)) S w_:=by
    rw [f8,f9,B];simpa [bC] using a
   exact ⟨q.set 7 (by first|assumption|trivial),⟨M,g,r,G,Y,O,J,p,U,a⟩⟩
  ·have Ch:=cR ‹_›;have f9:D 9=false:=bA.2 fun h=>by rw [J h] at Z;cases Z
   have B:D 11=false:=bA.2 fun h=>by rw [p h] at f9;cases f9
   obtain ⟨q7,hT⟩:=G ‹D 7=true›;subst q7;rw [‹D 7=true›,Z,f9,B] at a;refine eO a bi (by simp [Value.cells,hT.length]) (by omega) (by omega) fun r w_ a=>?_;have G:aF D 8 7=true->Value.agg g.toArray=Value.agg g.toArray/\TrT M g (c0.body)[j]:=fun _=>⟨rfl,hT⟩
   have Y:=fun (_:aF D 8 8=true)=>(rfl:Value.slice (some ⟨r,0,none⟩) 1 1=_)
   have O:=fun (_:aF D 8 8=true)=>‹D 7=true›;have J:=fun (_:aF D 8 9=true)=>(rfl:aF D 8 8=true)
   have a:Inv w [] (bC (ei b1 #[ee c0.head.kind,ee c0.head.n,.string c0.head.name,kv,kt b o c0.body.length cap] ad) (ei b2 eu ad) (ei b3 #[ee c0.head.kind,ee c0.head.n,.string c0.head.name,t,l] ad) (ei b3 #[ee c0.head.kind,ee c0.head.n,.string c0.head.name,t,V] ad) (aB l ac 4 css) (aB V ac 4 (css++[g])) (bO (N::Ls).flatten) M (ei r g.toArray ac) (D 7) true (D 9) (D 11)) S w_:=by
    rw [‹D 7=true›,f9,B];simpa [bC,Value.cells] using a
   exact ⟨q.set 8 (by first|assumption|trivial),⟨M,g,r,G,Y,O,J,p,U,a⟩⟩
  ·obtain rfl:=ci ‹_›;have z4:=dJ ‹_›;have B:D 11=false:=bA.2 fun h=>by rw [p h] at Z;cases Z
   have q8:=Y ‹D 8=true›;subst q8;obtain ⟨_,hT⟩:=G ‹D 7=true›;rw [‹D 7=true›,‹D 8=true›,Z,B] at a;have a5:((bC (ei b1 #[ee c0.head.kind,ee c0.head.n,.string c0.head.name,kv,kt b o c0.body.length cap] ad) (ei b2 eu ad) (ei b3 #[ee c0.head.kind,ee c0.head.n,.string c0.head.name,t,lS] ad) (ei b3 #[ee c0.head.kind,ee c0.head.n,.string c0.head.name,t,V] ad) (aB lS ac 4 css) (aB V ac 4 (css++[g])) (bO (N::Ls).flatten) M (ei r g.toArray ac) true true false false))[4+(bO (N::Ls).flatten).length+(bO M).length]?=some (ei r g.toArray ac):=by
    have e4:4+(bO (N::Ls).flatten).length+(bO M).length=((bO (N::Ls).flatten).length+(bO M).length)+1+1+1+1:=by omega
    rw [e4];simp only [bC,mG];rw [jV (by omega),qx,jV (aY _),fB];rfl
   refine fl a 3 g bi (by omega) rfl (by rw [hT.length]) (m:=1) (o:=0) ?_ hT.one (by omega) (by omega) fun v' w_ a=>?_
   ·intro i u hi;rw [a.cellL a5,cS];simpa using hi
   rw [fO] at a;have J:=fun (_:aF D 9 9=true)=>‹D 8=true›;have p:=fun (_:aF D 9 11=true)=>(rfl:aF D 9 9=true)
   have a:Inv w [] (bC (ei b1 #[ee c0.head.kind,ee c0.head.n,.string c0.head.name,kv,kt b o c0.body.length cap] ad) (ei b2 eu ad) (ei b3 #[ee c0.head.kind,ee c0.head.n,.string c0.head.name,t,lS] ad) (ei b3 #[ee c0.head.kind,ee c0.head.n,.string c0.head.name,t,v'] ad) (aB lS ac 4 css) (aB v' ac 4 (css++[g])) (bO (N::Ls).flatten) M (ei r g.toArray ac) (D 7) (D 8) true (D 11)) S w_:=by
    rw [‹D 7=true›,‹D 8=true›,B];exact a
   exact ⟨q.set 9 (by first|assumption|trivial),⟨M,g,r,G,Y,O,J,p,U,a⟩⟩
  ·refine ax bS ?_;exact ⟨q.set 10 rfl,⟨M,g,r,G,Y,O,J,p,U,a⟩⟩
  ·obtain rfl:=cJ ‹_›;have Ds:=dQ ‹_›;rw [‹D 7=true›,‹D 8=true›,‹D 9=true›,Z] at a;obtain ⟨va,vn,vc,a3⟩:=Inv.rowSlice a 3 rfl;refine eV a 2 (n:=1) (by rw [a3];rfl) (by decide +kernel) rfl (by simp) (by rw [a3];simp [Value.cells,Value.oneCell']) fun w_ a=>?_;have a6:Value.cells V=#[V]:=by rw [a3];rfl
   rw [a6] at a;have U:=fun (_:aF D 11 11=true)=>‹D 1=true›;have p:=fun (_:aF D 11 11=true)=>‹D 9=true›;have a:Inv w [] (bC (ei b1 #[ee c0.head.kind,ee c0.head.n,.string c0.head.name,kv,kt b o c0.body.length cap] ad) (ei b2 eu ad) (ei b3 #[ee c0.head.kind,ee c0.head.n,.string c0.head.name,t,l] ad) (ei b3 #[ee c0.head.kind,ee c0.head.n,.string c0.head.name,t,V] ad) (aB l ac 4 css) (aB V ac 4 (css++[g])) (bO (N::Ls).flatten) M (ei r g.toArray ac) (D 7) (D 8) (D 9) true) S w_:=by
    rw [‹D 7=true›,‹D 8=true›,‹D 9=true›];exact a
   exact ⟨q.set 11 trivial,⟨M,g,r,G,Y,O,J,p,U,a⟩⟩
  obtain ⟨rfl,rfl,rfl,rfl,rfl,rfl,rfl,Ch,z4,Ds,rfl,_,_⟩:=q.all;have nI:D 7=true:=by assumption
  have H7:D 8=true:=by assumption
  have Jw:D 9=true:=by assumption
  have qb:D 11=true:=by assumption
  clear q cF ci cG cD bU cH cj cR dJ dQ cJ dv;obtain ⟨_,hT⟩:=G nI;rw [nI,H7,Jw,qb] at a;refine bL (by omega) ?_;refine ⟨⟨j+1,V,Ls++[M],css++[g],a1,rfl,?_,?_⟩,by simp [intOf];omega⟩
  ·rw [gt a1];exact hg.snoc hT hT.length
  ·rw [<- dg,y5,ft];simp only [gR,sU,dk];refine a.sub ?_;simp only [bC,gR];rw [<- cN];exact (((gV _ _).cons_cons _).cons_cons _).cons_cons _ |>.cons_cons _
 ·have:j=c0.body.length:=by omega
  subst this;rw [g7] at hg;obtain ⟨va,vn,vc,a8⟩:=a.rowSlice 3 rfl;have b0:l.oneCell'=true:=by rw [a8];rfl
  have o1:t.oneCell'=true:=a2.one t (by simp);refine aq a 2 aK rfl rfl ?_;refine aj a 1 rfl aK rfl rfl ?_ fun w' a=>?_
  ·intro u hu;have a0:u∈([ee c0.head.kind,ee c0.head.n,.string c0.head.name,t,l]:nA):=hu;simp at a0;rcases a0 with rfl|rfl|rfl|rfl|rfl <;> first|rfl|exact o1|exact b0
  refine be a 1 aK rfl rfl ?_;have a:Inv w [] (aB l ac 4 css::bO (N::Ls).flatten) S w':=a.sub (fj [_,_,_] _);rw [gR,ft] at a;have a:=a.perm (M:=bO N++(aB l ac 4 css::bO Ls.flatten)) (zal109);obtain ⟨L,hT,a⟩:=Inv.rowTree a hg;exact ⟨_,_,_,rfl,a,Ext.refl _ _ _,rfl,_,N++L,rfl,by rw [ft],_,l,N,L,rfl,rfl,a2,hT⟩
end
end
section
open Go Go.RowKit
section
variable {P:Program} {w w0:World} {X:List Nat} {L:List Item} {S:ai} {K:Value->World->Prop}
theorem Sq (h:Inv w0 X L S w) {T ty e:TypeId} {k m n q:Nat} {z v:Value} {cs:List Bool} {xs:nA} {a:Option Addr} (i:Nat)
  (r:jX P T=some (e,k,m,z)) (t:L[i]?=some (.row v e k n xs)) (hk:K v w) :
  Run P (co .append #[T,T] ty cs [v,.slice a 0 q]) w K:=by
 obtain ⟨p,B,l,M,N,O,C⟩:=kN r;have j:=h.its _ (f0 t);simp only [Item.holds] at j;refine Run.of (v:=v) (w':=w) ?_ hk;rcases j.2 with ⟨rfl,rfl⟩|⟨g,cap,D,rfl,_,U,o,G,J,V⟩
 ·cases a <;> simp [co,builtin,Builtin.append_,run_underlying p,sizeOf,typeInfo,l,Builtin.lenOf,Builtin.firstCells,loadCells,loadCellsFrom]
 ·cases a <;> simp [co,builtin,Builtin.append_,run_underlying p,sizeOf,typeInfo,l,storeCells,o,Builtin.lenOf,Builtin.firstCells,loadCells,loadCellsFrom]
end
end
section
open Go Go.RowKit

structure Rows {α:Type} (k:Nat) (R:List Value->α->Prop) (css:List (List Value)) (ys:List α):Prop where
 hc:css.length=ys.length
 hk:∀ cs∈css,cs.length=k
 hR:∀ i (h:i<ys.length) (h1:i<css.length),R css[i] ys[i]
theorem Rows.nil {α:Type} (k:Nat) (R:nA->α->Prop):Rows k R [] ([]:List α):=⟨rfl,by simp,fun i h=>by simp at h⟩
theorem Rows.snoc {α:Type} {k:Nat} {R:nA->α->Prop} {css:List (nA)} {ys:List α} (h:Rows k R css ys) {cs:nA} {y:α} (hR:R cs y) (g:cs.length=k):Rows k R (css++[cs]) (ys++[y]):=by
 refine ⟨by simp [h.hc],fun c hc=>?_,fun i j m=>?_⟩
 ·rcases cU.1 hc with hc|hc
  ·exact h.hk c hc
  ·simp at hc;subst hc;exact g
 ·have l:=h.hc;by_cases a:i<ys.length
  ·rw [qR (by omega),qR a];exact h.hR i a (by omega)
  ·have:i=ys.length:=by simp at j;omega
   subst this;rw [rQ (by omega),rQ (by omega)];simp only [l,fB,pQ];exact hR
theorem Rows.append {α:Type} {k:Nat} {R:nA->α->Prop} {css a:List (nA)} {ys g:List α} (h:Rows k R css ys) (j:Rows k R a g):Rows k R (css++a) (ys++g):=by
 have e:=h.hc;have p:=j.hc;refine ⟨by simp [e,p],fun c hc=>?_,fun i o q=>?_⟩
 ·rcases cU.1 hc with hc|hc
  ·exact h.hk c hc
  ·exact j.hk c hc
 ·by_cases m:i<ys.length
  ·rw [qR (by omega),qR m];exact h.hR i m (by omega)
  ·have l:i - css.length<g.length:=by simp at o;omega
   rw [rQ (by omega),rQ (by omega)];have:=j.hR (i - css.length) l (by omega);simpa only [e] using this
theorem RowRd.rows {α:Type} {S:ai} {v:Value} {e:TypeId} {k:Nat} {R:nA->α->Prop} {css:List (nA)} {ys:List α} (a:Rows k R css ys) (h:RowRd S v e k css.length css.flatten):RdSl S k R v ys:=by
 obtain ⟨C,h⟩:=h;have j:=a.hc;rcases h with ⟨rfl,D⟩|⟨g,cap,l,rfl,q,r,m,t,B⟩
 ·have:ys=[]:=jM (by omega);subst this;exact ⟨none,0,rfl,aY _,aT _,.inl rfl⟩
 ·refine ⟨_,cap,by rw [j],by omega,m,.inr ⟨g,0,l,e,(0,0),rfl,q,fun i o=>?_⟩⟩;have:=iL k css i a.hk (by omega);have p:i * k+k<=css.length * k:=by rw [<- ip];exact fK k (by omega)
  rw [<- B,IQ,EZ,AO (by omega)] at this;rw [bJ,cS,this];exact a.hR i o (by omega)
theorem lO {k:Nat}:∀ {css:List (nA)},(∀ cs∈css,cs.length=k)->css.flatten.length=css.length * k
 | [],_=>by simp
 | c::css,h=>by
  have:=lO (css:=css) fun cs hc=>h cs (bI _ hc);rw [gR,bt,h c (bF ..),this,aP,ip,Nat.add_comm]
section
variable {P:Program} {w w0:World} {X:List Nat} {L:List Item} {S:ai} {K:Value->World->Prop}
end
end
section
open Go Go.RowKit

theorem mt {P:Program} {T e:TypeId} {k:Nat} (h:dI P T=some (e,k)):P.underlying T=some (.slice e)/\∃ i,P.info? e=some i/\i.size=k:=by
 unfold dI at h;split at h
 ·rename_i l g
  rw [fV] at h;obtain ⟨i,j,a⟩:=h;simp only [c9] at a;obtain ⟨rfl,rfl⟩:=a;exact ⟨g,i,j,rfl⟩
 ·cases h
section
variable {P:Program} {w:World} {K:Value->World->Prop}
theorem jJ {n y:Nat} {code:BoundsCode} (h:n<=y):(Instr.sliceBound (ee n) y code).run P w=.ok n w:=by
 have a:(0:Int)<=(n:Int)/\(n:Int)<=(y:Int):=by omega
 simp [Instr.sliceBound,asIntOf,h]
theorem Uk {T ty e:TypeId} {k h len cap:Nat} {a:Option Addr} (g:dI P T=some (e,k)) (j:h<=cap) (hk:K (.slice (if cap=0 then a else a.map (·.add (0 * k))) h cap) w) :
  Run P (sOp (.slice T (.const (.slice a len cap)) none (some (.const (ee h))) none) ty) w K:=by
 obtain ⟨l,i,m,_⟩:=mt g;refine Run.of ?_ hk;simp [sOp,execOp,ev0,evE,Instr.sliceAt,Instr.slice,Instr.sliceBounds,run_underlying l,jJ j,sizeOf,typeInfo,m]
theorem MP {T ty e:TypeId} {k l len cap:Nat} {a:Option Addr} (g:dI P T=some (e,k)) (h:l<=len) (hk:K (.slice (if cap=l then a else a.map (·.add (l * k))) (len - l) (cap - l)) w) :
  Run P (sOp (.slice T (.const (.slice a len cap)) (some (.const (ee l))) none none) ty) w K:=by
 obtain ⟨j,i,m,o⟩:=mt g;refine Run.of ?_ hk;simp [sOp,execOp,ev0,evE,Instr.sliceAt,Instr.slice,Instr.sliceBounds,run_underlying j,jJ h,sizeOf,typeInfo,m,o]
theorem Ws {T ty e:TypeId} {k l h len cap:Nat} {a:Option Addr} (g:dI P T=some (e,k)) (j:l<=h) (m:h<=cap) (hk:K (.slice (if cap=l then a else a.map (·.add (l * k))) (h - l) (cap - l)) w) :
  Run P (sOp (.slice T (.const (.slice a len cap)) (some (.const (ee l))) (some (.const (ee h))) none) ty) w K:=by
 obtain ⟨o,i,p,q⟩:=mt g;refine Run.of ?_ hk;simp [sOp,execOp,ev0,evE,Instr.sliceAt,Instr.slice,Instr.sliceBounds,run_underlying o,jJ j,jJ m,sizeOf,typeInfo,p,q]
end
theorem RdSl.to {α:Type} {S:ai} {k:Nat} {R:nA->α->Prop} {a:Option Addr} {cap n h:Nat} {xs:List α} (g:RdSl S k R (.slice a n cap) xs) (r:h<=xs.length) :
  RdSl S k R (.slice (if cap=0 then a else a.map (·.add (0 * k))) h cap) (xs.take h):=by
 obtain ⟨B,j,e,C,hc,g⟩:=g;simp only [Value.slice.injEq] at e;obtain ⟨rfl,rfl,rfl⟩:=e;have l:(if cap=0 then a else a.map (·.add (0 * k)))=a:=by
  split
  ·rfl
  ·cases a <;> simp [Addr.add]
 rw [l];have m:h=(xs.take h).length:=by rw [ig];omega
 refine ⟨a,cap,by rw [<- m],by omega,hc,?_⟩;rcases g with rfl|⟨b,o,c,E,p,rfl,q,hR⟩
 ·left;simp
 ·right;refine ⟨b,o,c,E,p,rfl,q,fun i t=>?_⟩;rw [RP];exact hR i (by omega)
theorem RdSl.from {α:Type} {S:ai} {k:Nat} {R:nA->α->Prop} {a:Option Addr} {cap n l:Nat} {xs:List α} (g:RdSl S k R (.slice a n cap) xs) (C:l<=xs.length) :
  RdSl S k R (.slice (if cap=l then a else a.map (·.add (l * k))) (n - l) (cap - l)) (xs.drop l):=by
 obtain ⟨D,m,e,q,hc,g⟩:=g;simp only [Value.slice.injEq] at e;obtain ⟨rfl,rfl,rfl⟩:=e;refine ⟨_,cap - l,by rw [mj],by rw [mj];omega,by omega,?_⟩;by_cases j:xs.drop l=[]
 ·exact .inl j
 ·rcases g with rfl|⟨b,o,c,E,t,rfl,B,hR⟩
  ·simp at j
  ·right;have r:l<xs.length:=by
    rcases KV l xs.length with h|h
    ·exact h
    ·exact absurd (uY h) j
   refine ⟨b,o+l * k,c,E,t,?_,B,fun i p=>?_⟩
   ·rw [ae (by omega)];simp [Addr.add]
   ·rw [List.getElem_drop];have:=hR (l+i) (by simp at p;omega)
    rwa [hY,<- Nat.add_assoc] at this
section
variable {P:Program} {w w0:World} {X:List Nat} {L:List Item} {S:ai} {K:Value->World->Prop}
theorem Iz {α:Type} {R:nA->α->Prop} {xs:List α} {v:Value} {T ty e:TypeId} {k h:Nat} (i:dI P T=some (e,k)) (g:RdSl S k R v xs) (j:h<=xs.length)
  (hk:∀ v',RdSl S k R v' (xs.take h)->K v' w):Run P (sOp (.slice T (.const v) none (some (.const (ee h))) none) ty) w K:=by
 obtain ⟨a,cap,rfl,m,hc,l⟩:=id g;exact Uk i (by omega) (hk _ (g.to j))
theorem tB {α:Type} {R:nA->α->Prop} {xs:List α} {v:Value} {T ty e:TypeId} {k l:Nat} (i:dI P T=some (e,k)) (g:RdSl S k R v xs) (h:l<=xs.length)
  (hk:∀ v',RdSl S k R v' (xs.drop l)->K v' w):Run P (sOp (.slice T (.const v) (some (.const (ee l))) none none) ty) w K:=by
 obtain ⟨a,cap,rfl,j,hc,m⟩:=id g;exact MP i h (hk _ (g.from h))
end
theorem RdSl.exact {α:Type} {S:ai} {k:Nat} {R:nA->α->Prop} {v:Value} {ys:List α} (h:RdSl S k R v ys) (hk:∀ cs y,R cs y->cs.length=k) :
  ∃ ds:List {cs:nA // cs.length=k},RdSl S k (fun cs d=>cs=d.val) v ds/\Rows k R (ds.map (·.val)) ys:=by
 obtain ⟨a,cap,rfl,j,hc,m⟩:=h;rcases m with rfl|⟨b,o,c,E,p,rfl,q,hR⟩
 ·exact ⟨[],⟨a,cap,rfl,j,hc,.inl rfl⟩,Rows.nil _ _⟩
 ·refine ⟨List.ofFn fun i:Fin ys.length=>⟨bJ c (o+i.val * k) k,hk _ _ (hR i.val i.isLt)⟩,⟨_,cap,by rw [List.length_ofFn],by rw [List.length_ofFn];exact j,hc,.inr ⟨b,o,c,E,p,rfl,q,fun i r=>by simp⟩⟩,⟨by simp,fun cs g=>?_,fun i l t=>?_⟩⟩
  ·obtain ⟨d,_,rfl⟩:=ob.1 g;exact d.property
  ·simp only [CU,List.getElem_ofFn];exact hR i l
section
variable {P:Program} {w w0:World} {X:List Nat} {L:List Item} {S:ai} {K:Value->World->Prop}
theorem ge {α:Type} {R:nA->α->Prop} (h:Inv w0 X L S w) {T ty e:TypeId} {k t:Nat} {z v u:Value} {cs:List Bool} {css:List (nA)} {ys:List α} (i:Nat)
  (Y:jX P T=some (e,k,t,z)) (p:0<k) (J:L[i]?=some (aB v e k css)) (hr:RdSl S k R u ys) (B:∀ cs y,R cs y->cs.length=k) (h1:∀ cs y,R cs y->∀ c∈cs,c.oneCell'=true)
  (Z:css.length+ys.length<=4294967296) (M:t<=32768) (hk:∀ v' w' m,Rows k R m ys->Inv w0 X (L.set i (aB v' e k (css++m))) S w'->K v' w') :
  Run P (co .append #[T,T] ty cs [v,u]) w K:=by
 obtain ⟨ds,hd,hR⟩:=hr.exact B;have a3:ds.length=ys.length:=by have:=hR.hc;simpa using this
 have D:∀ d∈ds,∀ c∈d.val,c.oneCell'=true:=by
  intro d q c hc;obtain ⟨j,C,rfl⟩:=HE.1 q;have:=hR.hR j (by omega) (by simpa using C);simp only [CU] at this;exact h1 _ _ this c hc
 obtain ⟨a,cap,rfl,a0,a1,hx⟩:=id hd;have e1:∀ v',Item.row v' e k (css.length+ds.length) (css.flatten++(ds.map (·.val)).flatten)=aB v' e k (css++ds.map (·.val)):=fun v'=>by simp [aB]
 rcases hx with rfl|⟨b,o,c,E,fz,rfl,hS,V⟩
 ·refine Sq h i Y J (hk v w [] (by simpa using hR) ?_);have:L.set i (aB v e k (css++[]))=L:=by
   obtain ⟨a2,e'⟩:=ie.1 J;rw [dk,<- e',List.set_getElem_self]
  rw [this];exact h
 ·have G:(ds.map (·.val)).flatten.length=ds.length * k:=by
   rw [lO (k:=k) (fun cs g=>by obtain ⟨d,_,rfl⟩:=ob.1 g;exact d.property),ro]
  refine fl h i (ds.map (·.val)).flatten Y p J G ?_ ?_ (by omega) M fun v' w' hI=>hk _ _ _ hR ?_
  ·intro j u C;have O:j<ds.length * k:=by
    rw [<- G];exact (ie.1 C).1
   have hq:j / k<ds.length:=(Nat.div_lt_iff_lt_mul p).2 O;have r:=V (j / k) hq;have l:=iL k (ds.map (·.val)) (j / k) (fun cs g=>by obtain ⟨d,_,rfl⟩:=ob.1 g;exact d.property) (by simpa using hq);have U:=Nat.div_add_mod j k;rw [Nat.mul_comm] at U;rw [h.cellS hS];have e2:(ds.map (·.val)).flatten[j]?=(ds[j / k].val)[j % k]?:=by
    rw [CU] at l;rw [<- l,wA,ag (AU _ p),xy]
    congr 1
    omega
   rw [e2] at C;have:=bf r (j % k) u C;rw [<- this]
   congr 1
   omega
  ·intro u N;obtain ⟨cs,g,N⟩:=List.mem_flatten.1 N;obtain ⟨d,q,rfl⟩:=ob.1 g;exact D d q u N
  ·rw [<- e1];exact hI
end
end
end Go.Proofs.YtjbcdmheajljpaaGreat
