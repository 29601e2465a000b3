/- A row of a function's own, handed to a function that only reads; rows of numbers. -/
import Derived.Test.YtjbcdmheajljpaaGreatZCv0
import Derived.Test.YtjbcdmheajljpaaGreatRows
import Derived.ProofKit
import Derived.ReadAgain
import Derived.Carry
import Derived.Laws.BytesArg
import Derived.Laws.StructEq
import Derived.Laws.Tables
namespace Go.Proofs.YtjbcdmheajljpaaGreat
section
open Go Go.RowKit
attribute [local irreducible] Run CondV aw aI

def RowRd (S:af) (v:Value) (e:TypeId) (k n:Nat) (xs:List Value):Prop:=
 xs.length=n * k/\((v=.slice none 0 0/\n=0) ∨ ∃ g cap cur,v=.slice (some ⟨g,0,none⟩) n cap/\S g=some (.cells cur e)/\n<=cap/\cap<=maxLen/\cur.size=cap * k/\cur.toList.take (n * k)=xs)
theorem Inv.lend {w0 w:World} {X:List Nat} {A:List Item} {S:af} {v:Value} {e:TypeId} {k n:Nat} {xs:List Value} (h:Inv w0 X (A++[.row v e k n xs]) S w) :
  ∃ S',Sle S S'/\RowRd S' v e k n xs/\Inv w0 X A S' w/\∀ B w',Inv w0 X B S' w'->Inv w0 X (B++[.row v e k n xs]) S w':=by
 have M:w.ownsRow 0 e k v n xs:=h.its (.row v e k n xs) (by simp);obtain ⟨G,M⟩:=M;rcases M with ⟨rfl,rfl⟩|⟨g,cap,l,rfl,_,hg,u,C,D,O⟩
 ·have:xs=[]:=kP (by rw [G,jh]);subst this;exact ⟨S,Sle.refl S,⟨G,.inl ⟨rfl,rfl⟩⟩,h.sub (ii _ _),fun B w' m=>m.rowNil e k⟩
 ·have hf:bF (A++[Item.blk g (.cells l e)])=bF (A++[Item.row (.slice (some ⟨g,0,none⟩) n cap) e k n xs]):=by
   simp [bF,Item.foot,Value.ownBlock]
  have q:g∈bF (A++[Item.row (.slice (some ⟨g,0,none⟩) n cap) e k n xs]):=by simp [bF,Item.foot,Value.ownBlock]
  have Z:Inv w0 X (A++[Item.blk g (.cells l e)]) S w:=by
   refine ⟨h.size,h.os,h.tape,h.output,h.old,fun it i=>?_,by rw [hf]; exact h.nd,by rw [hf]; exact h.new,by rw [hf]; exact h.pub⟩;rcases dh.1 i with i|i
   ·exact h.its it (iF _ i)
   ·simp at i;subst i;exact hg
  obtain ⟨V,Y⟩:=Z.publishLast;refine ⟨jn S g (.cells l e),Y,⟨G,.inr ⟨g,cap,l,rfl,by simp [jn],u,C,D,O⟩⟩,V,fun B w' m=>?_⟩;have r:=m.pub g (.cells l e) (by simp [jn]);have p:bF (B++[Item.row (.slice (some ⟨g,0,none⟩) n cap) e k n xs])=bF B++[g]:=by simp [bF,Item.foot,Value.ownBlock]
  refine ⟨m.size,m.os,m.tape,m.output,m.old,fun it i=>?_,?_,?_,?_⟩
  ·rcases dh.1 i with i|i
   ·exact m.its it i
   ·simp at i;subst i;exact ⟨G,.inr ⟨g,cap,l,rfl,aQ _,r.1,u,C,D,O⟩⟩
  ·rw [p,tN];refine ⟨m.nd,by simp,fun a U b N=>?_⟩;simp at N;subst N;intro J;subst J;exact r.2 U
  ·intro c hc;rw [p] at hc;rcases dh.1 hc with hc|hc
   ·exact m.new c hc
   ·simp at hc;subst hc;exact h.new _ q
  ·intro c o hc;have t:c≠g:=fun J=>by
    subst J;exact (h.pub c o hc).2 q
   have:=m.pub c o (by simp only [jn]; rw [ah t]; exact hc);refine ⟨this.1,?_⟩;rw [p];intro j;rcases dh.1 j with j|j
   ·exact this.2 j
   ·simp at j;exact t j
theorem Et {α:Type} (f:α->List Value) (k:Nat) (hf:∀ y,(f y).length=k):∀ (ys:List α) (i:Nat) (h:i<ys.length),((ys.flatMap f).drop (i * k)).take k=f ys[i]
 | [],i,h=>by simp at h
 | y::ys,0,h=>by
  rw [Ab,jh,dk,GB (by rw [hf]; exact a7 _),Ei (by rw [hf]; exact a7 _)];rfl
 | y::ys,i+1,h=>by
  rw [Ab,ip,Nat.add_comm,<- Eu,List.drop_left' (hf y)];exact Et f k hf ys i (by simpa using h)
theorem RowRd.rd {α:Type} {S:af} {v:Value} {e:TypeId} {k:Nat} {f:α->List Value} {R:List Value->α->Prop} {ys:List α} (hf:∀ y,(f y).length=k) (hR:∀ y∈ys,R (f y) y)
  (h:RowRd S v e k ys.length (ys.flatMap f)):RdSl S k R v ys:=by
 obtain ⟨u,h⟩:=h;rcases h with ⟨rfl,p⟩|⟨g,cap,j,rfl,q,l,m,r,t⟩
 ·have:ys=[]:=kP p;subst this;exact ⟨none,0,rfl,a7 _,aQ _,.inl rfl⟩
 ·refine ⟨_,cap,rfl,l,m,.inr ⟨g,0,j,e,(0,0),rfl,q,fun i a=>?_⟩⟩;have:=Et f k hf ys i a;have o:i * k+k<=ys.length * k:=by rw [<- ip]; exact eV k a
  rw [<- t,EC,Es,tE (by omega)] at this;rw [bd,ct,this];exact hR _ (cr a)

def ints (ns:List Int):List Value:=ns.flatMap fun n=>[.int .i64 n]
abbrev nz (v:Value) (ns:List Int):Item:=.row v ce 1 ns.length (ints ns)
theorem Fg (a:List Int) (n:Int):ints a++[.int .i64 n]=ints (a++[n]):=by simp [ints]
theorem RowRd.ints {S:af} {v:Value} {e:TypeId} {a:List Int} (h:RowRd S v e 1 a.length (ints a)):RdSl S 1 gL v a:=
 RowRd.rd (f:=fun n=>[Value.int .i64 n]) (fun _=>rfl) (fun _ _=>rfl) h
def G4 (l:List Int) (n:Int):Bool:=l.any fun x=>decide (n=x)
def kY (l:List Int) (n:Int):List Int:=if G4 l n=true then l else l++[n]
theorem D8 (l:List Int) (n:Int):(kY l n).length<=l.length+1:=by
 unfold kY;split <;> simp

theorem kK (s:Int) {xs:List Int} {S:af} {v:Value} (h:RdSl S 1 gL v xs) :
  Pure Tryz.prog v6 [v,.int .i64 s] S (.int .i64 (cE (σ:=Unit) (fun _ x=>(decide (s=x),())) () xs 0).1):=by
 intro w j;have l:=h.le;simp only [maxLen] at l;refine lN.2 ?_;dsimp only[lN,a6];refine aL h el ?_;refine ⟨fun i w'=>∃ k:Nat,k<=xs.length/\i=.int .i64 k/\cE (σ:=Unit) (fun _ x=>(decide (s=x),())) () (xs.drop k) k=cE (σ:=Unit) (fun _ x=>(decide (s=x),())) () xs 0/\Inv w [] [] S w',
  fun i _=>xs.length - (intOf i).toNat,⟨0,aQ _,rfl,rfl,j⟩,?_⟩
 intro q _ _ _ _ _ _ _ _ _ _ _ _ w';rintro ⟨k,hk,rfl,a,j⟩;refine cq ?_;refine aR (fun m=>?_) (fun m=>?_)
 ·have g:k<xs.length:=by omega
  rw [dr g,cE] at a;refine i7 j h el az g (fun cs o=>o) ?_;refine bo ?_;refine aR (fun p=>done j ?_) (fun p=>?_)
  ·rw [<- a,ai (by simpa using p)]
  ·refine bz (by omega) ?_;rw [ah (by simpa using p)] at a;exact ⟨⟨k+1,g,rfl,a,j⟩,by simp [intOf]; omega⟩
 ·have:k=xs.length:=by omega
  subst this;rw [dV,cE] at a;exact done j (by rw [<- a])
theorem nI (s:Int) {xs:List Int} {S:af} {v:Value} (h:RdSl S 1 gL v xs):Pure Tryz.prog qo [v,.int .i64 s] S (.bool (G4 xs s)):=by
 intro w a;refine iS.2 ?_;dsimp only[iS,a6];refine Run.callPure lJ lH a (kK s h) fun w' a=>?_;refine jI (done a ?_);rw [(ky _ xs () 0).1,md]; rfl
end
section
open Go Go.RowKit
attribute [local irreducible] Run CondV aw aI

mutual
def gd:T->List Int->List Int
 | .mk k n _ ks,l=>dp ks (if k=1 then kY l n else l)
def dp:List T->List Int->List Int
 | [],l=>l
 | t::ts,l=>dp ts (gd t l)
end
mutual
def vx:T->List Int->List Int
 | .mk k n _ ks,l=>if k=1 then kY l n else ni ks l
def ni:List T->List Int->List Int
 | [],l=>l
 | t::ts,l=>ni ts (vx t l)
end
mutual
theorem tq:∀ (t:T) (l:List Int),((gd t l).length:Int)<=l.length+bT t
 | .mk k n s ks,l=>by
  rw [gd,show bT (T.mk k n s ks)=1+bi ks from rfl];have a:=D8 l n;have:=uX ks (if k=1 then kY l n else l);split at this <;> rename_i hk <;> simp only [hk,if_true,if_false] at this ⊢ <;> omega
theorem uX:∀ (a:List T) (l:List Int),((dp a l).length:Int)<=l.length+bi a
 | [],l=>by simp [dp,bi]
 | t::a,l=>by
  rw [dp,show bi (t::a)=bT t+bi a from rfl];have:=tq t l;have:=uX a (gd t l);omega
end
mutual
theorem Ay:∀ (t:T) (d:Int) (l:List Int),cP t d=true->vx t l=gd t l
 | .mk k n s ks,d,l,h=>by
  rw [cP] at h;split at h
  ·cases h
  ·rw [bJ] at h;rw [vx,gd];split
   ·rw [zU h.1 (.inl ‹k=1›)]; rfl
   ·exact ue ks (d - 1) l h.2
theorem ue:∀ (a:List T) (d:Int) (l:List Int),cK a d=true->ni a l=dp a l
 | [],d,l,h=>rfl
 | t::a,d,l,h=>by
  rw [cK,bJ] at h;rw [ni,dp,Ay t d l h.1];exact ue a d _ h.2
end
theorem lG {t:T} (h:cD t=true):cP t 30=true:=by
 rw [cD,bJ] at h;exact h.1
abbrev Iz (S:af) (r:List Int):Value->List Item->af->Prop:=fun v I' S'=>I'=[nz v r]/\S'=S

theorem wx:∀ (t:T) (S:af) (cs:List Value) (v:Value) (l:List Int),RdT S cs t->l.length+bT t<=1000000000->Tri Tryz.prog Bo [.agg cs.toArray,v] [nz v l] S (Iz S (gd t l)):=by
 refine T.ind fun k n s g ih S cs v l h hl=>?_;intro w a;obtain ⟨kv,rfl,_,_,hs,q⟩:=RdT.iff.1 h;simp only [T.name,T.kids,T.kind,T.n] at hs q ⊢;have D:=q.le;simp only [maxLen] at D;rw [show bT (T.mk k n s g)=1+bi g from rfl] at hl;have a4:=bW g;have a5:=D8 l n;refine ov.2 ?_;dsimp only[ov,a6];refine bB a fun J w' a=>?_;have a:=a.perm (M:=[.blk J (.cells #[.int .i64 k,.int .i64 n,.string s,kv] ac),nz v l]) (List.Perm.swap _ _ _);refine ⟨fun t w'=>Inv w (bF [nz v l]) [.blk J (.cells #[.int .i64 k,.int .i64 n,.string s,kv] ac),nz t (if k=1 then kY l n else l)] S w',?_,?_⟩
 ·refine ⟨fun t w'=>t=.bool (decide (k=1) && !G4 l n)/\Inv w (bF [nz v l]) [.blk J (.cells #[.int .i64 k,.int .i64 n,.string s,kv] ac),nz v l] S w',?_,?_⟩
  ·refine ag a 0 rfl aV az rfl ?_;refine bo ?_;cases h1:decide (k=1)
   ·refine rpG ?_;exact ⟨rfl,a⟩
   ·refine rpG ?_;refine ag a 0 rfl aM az rfl ?_;obtain ⟨S1,a3,Z,a,r⟩:=Inv.lend (A:=[_]) a;refine Run.callPure nP n6 a (nI n Z.ints) fun w' a=>?_;refine dD ?_;refine rpG ?_;exact ⟨rfl,r _ _ a⟩
  intro a1 _ _ _ _ _ _ _ _ _ w';rintro ⟨rfl,a⟩;refine aE (fun C=>?_) (fun C=>?_)
  ·simp only [bJ,bQ,sy] at C;refine ag a 0 rfl aM az rfl ?_;refine dI a iX rfl (by omega) (by omega) fun b w' a=>?_;refine dH a 1 (k:=1) [.int .i64 n] iX (by omega) rfl rfl ?_ ?_ (by omega) (by omega) fun U w' a=>?_
   ·intro j u N;rw [a.cellL (i:=2) rfl]
    match j with
    | 0=>simpa [Value.cells] using N
    | j+1=>simp at N
   ·simp [Value.oneCell']
   ·rw [Fg] at a;have a:=a.pick [true,true,false];rw [ai C.1,kY,ah (by rw [C.2]; decide)];have e:Item.row U ce 1 (l.length+1) (ints (l++[n]))=nz U (l++[n]):=by simp [nz]
    rw [show List.length l+1=l.length+1 from rfl,e] at a;exact a
  ·have:(if k=1 then kY l n else l)=l:=by
    split
    ·rename_i hk
     rw [kY];simp [hk] at C;rw [ai C]
    ·rfl
   rw [this];exact a
 intro t1 _ _ _ _ _ _ _ _ _ _ _ _ _ _ _ w' a;have a0:((if k=1 then kY l n else l).length:Int)+bi g<=1000000000:=by split <;> omega
 rw [show gd (.mk k n s g) l=dp g (if k=1 then kY l n else l) from by rw [gd]];generalize (if k=1 then kY l n else l)=l1 at a a0 ⊢;refine ag a 0 rfl av ar rfl ?_;refine aL q ao ?_;refine ⟨fun i t w'=>∃ (j:Nat) (B:List Int),j<=g.length/\i=.int .i64 j/\dp (g.drop j) B=dp g l1/\B.length+bi (g.drop j)<=1000000000/\Inv w (bF [nz v l]) [.blk J (.cells #[.int .i64 k,.int .i64 n,.string s,kv] ac),nz t B] S w',
  fun i _ _=>g.length - (intOf i).toNat,⟨0,l1,aQ _,rfl,rfl,by rw [dk]; omega,a⟩,?_⟩
 intro a2 _ t1 _ _ _ _ _ _ _ w';rintro ⟨j,B,N,rfl,m,O,a⟩;refine cq ?_;refine aR (fun V=>?_) (fun V=>?_)
 ·have p:j<g.length:=by omega
  rw [nb g j p] at O;rw [dr p,dp] at m;have a7:=bW (g.drop (j+1));have a8:=tq g[j] B;refine dx a q ao ad p (fun _ _=>RdT.length) fun Y o=>?_;have G:=o.length;refine aF a aZ fun b6 w' a=>?_;refine al a 2 rfl ad (by simpa using G) rfl (by simpa using o.one) fun w' a=>?_;refine au a 2 ad rfl (by simpa using G) ?_;have a:=a.pick [true,true,false];refine Run.call (A:=[_]) pr pz a (ih _ (cr p) S Y t1 B o (by omega)) fun U I' S' w'=>?_;rintro ⟨rfl,rfl⟩ _ a;refine bz (by omega) ?_;exact ⟨⟨j+1,_,p,rfl,m,by omega,a⟩,by simp [intOf]; omega⟩
 ·have:j=g.length:=by omega
  subst this;rw [dV,dp] at m;subst m;exact ⟨_,_,_,rfl,a.pick [false,true],Ext.refl _ _ _,rfl,rfl⟩
theorem zf {l:List T} {S:af} {v:Value} (h:RdSl S 4 (RdT S) v l) (D:bi l<=1000000000):Tri Tryz.prog DK [v] [] S (Iz S (dp l [])):=by
 intro w a;have q:=h.le;simp only [maxLen] at q;refine sa.2 ?_;dsimp only[sa,aG];refine aL h ao ?_;refine ⟨fun i t w'=>∃ (j:Nat) (p:List Int),j<=l.length/\i=.int .i64 j/\dp (l.drop j) p=dp l []/\p.length+bi (l.drop j)<=1000000000/\Inv w [] [nz t p] S w',
  fun i _ _=>l.length - (intOf i).toNat,⟨0,[],aQ _,rfl,rfl,by simpa using D,a.rowNil ce 1⟩,?_⟩
 intro N _ G _ _ _ _ _ _ _ w';rintro ⟨j,p,O,rfl,g,u,a⟩;refine cq ?_;refine aR (fun B=>?_) (fun B=>?_)
 ·have o:j<l.length:=by omega
  rw [nb l j o] at u;rw [dr o,dp] at g;have J:=bW (l.drop (j+1));have M:=tq l[j] p;refine dx a h ao ad o (fun _ _=>RdT.length) fun C m=>?_;have r:=m.length;refine aF a aZ fun U w' a=>?_;refine al a 1 rfl ad (by simpa using r) rfl (by simpa using m.one) fun w' a=>?_;refine au a 1 ad rfl (by simpa using r) ?_;have a:=a.pick [true,false];refine Run.call (A:=[]) pr pz a (wx _ S C G p m (by omega)) fun V I' S' w'=>?_;rintro ⟨rfl,rfl⟩ _ a;refine bz (by omega) ?_;exact ⟨⟨j+1,_,o,rfl,g,by omega,a⟩,by simp [intOf]; omega⟩
 ·have:j=l.length:=by omega
  subst this;rw [dV,dp] at g;subst g;exact ⟨_,_,_,rfl,a,Ext.refl _ _ _,rfl,rfl⟩
end
section
open Go Go.RowKit
attribute [local irreducible] Run CondV aw aI

section
variable {P:Program} {w w0:World} {X:List Nat} {L:List Item} {S:af} {K:Value->Value->Value->World->Prop}
end
theorem Dn {t:T} (h:dF t=true):cP t 30=true:=by
 rw [dF,bJ] at h;exact lG h.1
theorem si:∀ {a:List T},a.all dF=true->cK a 30=true
 | [],_=>rfl
 | t::a,h=>by
  rw [List.all_cons,bJ] at h;rw [cK,Dn h.1,si h.2]; rfl
theorem rX {c:C} (h:a4 c=true) (l:List Int):vx c.head l=gd c.head l/\ni c.body l=dp c.body l:=by
 simp only [a4,bJ] at h;exact ⟨Ay _ 30 _ (lG h.2.2.1),ue _ 30 _ (si h.2.1)⟩
end
section
open Go Go.ChangeShapes Go.WideShapes Go.ChangeAt Go.RowKit

def D0 (W:World):af:=fun b=>W.heap[b]?
section
variable {H:Type} {enc:TypeId × Value->H} {P:Program} {W:World} {sp:Nat->Bool} {held:Bool}
theorem Fa {a:Addr} {v:Value} (h:W.cell? a=some v):∃ b o c E g,a=⟨b,o,none⟩/\W.heap[b]?=some (.cells c E g)/\c[o]?=some v:=by
 obtain ⟨b,o,s⟩:=a;simp only [World.cell?] at h;split at h
 ·rename_i c E g i
  cases s with
  | none=>exact ⟨b,o,c,E,g,rfl,i,by simpa using h⟩
  | some s=>simp at h
 ·cases h
theorem G7 {b o k:Nat} {cs:List Value} {c:Array Value} {E:TypeId} {g:Nat × Nat} (j:W.heap[b]?=some (.cells c E g)) (h:W.cells? 0 ⟨b,o,none⟩ k=some cs):bd c o k=cs:=by
 unfold World.cells? at h;rw [ai (aQ _)] at h;have l:cs.length=k:=by simpa using mapM_some_length h
 apply Gz;intro i;rw [bd,rC];by_cases a:i<k
 ·rw [ai a,rq];have:=mapM_some_get h i i (by simp [a]);rw [<- this,add_lit];simp [World.cell?,j]
 ·rw [ah a,List.getElem?_eq_none (by omega)]
theorem sE {α:Type} (p:Nat->α->Prop):∀ n:Nat,(∀ i,i<n->∃ t,p i t)->∃ xs:List α,xs.length=n/\∀ i (h:i<xs.length),p i xs[i]
 | 0,_=>⟨[],rfl,fun i h=>by simp at h⟩
 | n+1,h=>by
  obtain ⟨xs,g,j⟩:=sE p n fun i a=>h i (by omega);obtain ⟨t,l⟩:=h n (by omega);refine ⟨xs++[t],by simp [g],fun i a=>?_⟩;by_cases e:i<xs.length
  ·rw [lz e];exact j i e
  ·have:i=xs.length:=by simp at a; omega
   subst this;simp only [m1 (a7 _),dY,pb];rw [g];exact l
theorem rN {T e:TypeId} {k:Nat} (h:cf P T=some (e,k)):P.underlying T=some (.slice e)/\P.cellsOf e=k:=by
 unfold cf at h;split at h
 ·rename_i l g
  rw [C4] at h;obtain ⟨i,j,a⟩:=h;simp only [cO] at a;obtain ⟨rfl,rfl⟩:=a;exact ⟨g,by simp [Program.cellsOf,j]⟩
 ·cases h
theorem H6 {α:Type} {R:List Value->α->Prop} {T e:TypeId} {k j:Nat} {v:Value} {x:DataW H × List MemPlace} (Z:cf P T=some (e,k)) (q:0<k)
  (h:DataW.trod enc P W 0 sp held j T [v]=some x) (r:∀ n cs y,j=n+1->DataW.trod enc P W 0 sp held n e cs=some y->∃ t:α,R cs t):∃ xs,RdSl (D0 W) k R v xs:=by
 obtain ⟨C,hk⟩:=rN Z;rcases DataW.trod_slice C h with ⟨g,_⟩|⟨a,len,cap,O,V,n,hf,g,_,_,hl,hc,Y,hE,_⟩
 ·simp only [wY,and_true] at g;subst g;exact ⟨[],none,0,rfl,a7 _,aQ _,.inl rfl⟩
 ·simp only [wY,and_true] at g;subst g;have M:∀ i,i<len->∃ t:α,∃ cs,W.cells? 0 (a.add (i * k)) k=some cs/\R cs t:=by
   intro i B;have:=hE i B;rw [hk,Br (by omega),Option.bind_eq_some_iff] at this;obtain ⟨cs,l,p⟩:=this;obtain ⟨t,ht⟩:=r n cs _ hf p;exact ⟨t,cs,l,ht⟩
  obtain ⟨xs,D,m⟩:=sE _ len M;subst D;refine ⟨xs,some a,cap,rfl,hl,hc,?_⟩;by_cases h0:xs.length=0
  ·exact .inl (kP h0)
  ·obtain ⟨G,l,_⟩:=m 0 (by omega);have e0:a.add (0 * k)=a:=by rw [jh]; simp [Addr.add]
   rw [e0] at l;have N:∃ u,W.cell? a=some u:=by
    unfold World.cells? at l;rw [ai (aQ _)] at l;have a0:G.length=k:=by simpa using mapM_some_length l
    have:=mapM_some_get l 0 0 (by simp [q]);rw [Br (by omega)] at this;have e1:a.add 0=a:=by simp [Addr.add]
    rw [e1] at this;exact ⟨_,this⟩
   obtain ⟨u,J⟩:=N;obtain ⟨b,o,c,E,fz,rfl,U,_⟩:=Fa J;refine .inr ⟨b,o,c,E,fz,rfl,U,fun i B=>?_⟩;obtain ⟨cs,p,hR⟩:=m i B;rw [add_lit] at p;rw [G7 U p];exact hR
end

section
variable {H:Type} {enc:TypeId × Value->H} {W:World} {sp:Nat->Bool} {held:Bool}
theorem four {cs:List Value} (h:cs.length=4):∃ a b c d,cs=[a,b,c,d]:=by
 match cs,h with
 | [a,b,c,d],_=>exact ⟨a,b,c,d,rfl⟩
end

theorem Inv.entry (W:World):Inv W [] [] (D0 W) W:=Inv.start (L:=[]) (by simp) (by simp [bF]) fun b o a=>⟨a,by simp [bF]⟩
theorem Inv.same {W W':World} {L:List Item} {S:af} (h:Inv W [] L S W') (b:Nat) (a:b<W.heap.size):W'.heap[b]?=W.heap[b]?:=h.old b a (by simp)
theorem E7 {W W':World} {g:MemPlace->Prop} (l:W'.os=W.os) (m:W'.output=W.output) (h:∀ b,b<W.heap.size->W'.heap[b]?=W.heap[b]?):W.keptBut W' g:=by
 refine ⟨l,m,fun i o=>?_⟩;rw [h i o];split
 ·rename_i j a
  rw [j] at a;simp only [a9,Obj.cells.injEq] at a;obtain ⟨rfl,rfl,rfl⟩:=a;exact ⟨rfl,rfl,rfl,fun _ _=>rfl⟩
 ·rename_i j a
  rw [j] at a;simp only [a9,Obj.map.injEq] at a;obtain ⟨rfl,rfl⟩:=a;exact .inr ⟨rfl,rfl⟩
 ·rfl
end
section
open Go Go.RowKit
attribute [local irreducible] Run CondV aw aI
end
section
open Go Go.RowKit
attribute [local irreducible] Run CondV aw aI

theorem FA {a b c d e:Value}:∀ (j:Nat) (v:Value),([a,b,c,d]:List Value)[j]?=some v->(#[a,b,c,d,e]:Array Value)[0+j]?=some v
 | 0,_,h|1,_,h|2,_,h|3,_,h=>h
 | j+4,_,h=>by simp at h
end
section
open Go Go.RowKit
attribute [local irreducible] Run CondV aw aI
end
section
open Go Go.RowKit
section
variable {P:Program} {w w0:World} {X:List Nat} {L:List Item} {S:af} {K:Value->World->Prop}
attribute [local irreducible] Run CondV aw aI
end

section
attribute [local irreducible] Run CondV aw aI
end
end
section
open Go Go.RowKit

theorem Part.upd {α:Type} {k:Nat} {R:aU->List Value->α->Prop} {c a:Array Value} {Ls:List aU} {xs:List α} (h:Part k R c Ls xs) {i:Nat} {L':aU} {x:α} (l:R L' (bd a (i * k) k) x)
  (g:∀ j,j≠i->bd a (j * k) k=bd c (j * k) k):Part k R a (Ls.set i L') (xs.set i x):=by
 refine ⟨by simp [h.1],fun j m o=>?_⟩;by_cases e:i=j
 ·subst e;rw [Bb,Bb];exact l
 ·rw [D9 e,D9 e,g j fun p=>e p.symm];exact h.2 j (by simpa using m) (by simpa using o)
section
attribute [local irreducible] Run CondV aw aI
end
end
section
open Go Go.RowKit

section
attribute [local irreducible] Run CondV aw aI
theorem TrC.parts {L:aU} {cs:List Value} {c:C} (h:TrC L cs c):∃ kv a L1 L2,cs=[.int .i64 c.head.kind,.int .i64 c.head.n,.string c.head.name,kv,a]/\L=L1++L2/\TrSl 4 TrT L1 kv c.head.kids/\TrSl 4 TrT L2 a c.body:=by
 obtain ⟨l,a,L1,L2,rfl,rfl,i,j⟩:=h;obtain ⟨kv,rfl,_,_,_,g⟩:=TrT.iff.1 i;exact ⟨kv,a,L1,L2,rfl,rfl,g,j⟩
end
end
section
open Go Go.RowKit

section
attribute [local irreducible] Run CondV aw aI
end
end
section
open Go Go.RowKit

theorem eX {P:Program} {w:World} {T:TypeId} {cs:Array Value} {a:Nat} {v:Value} (h:iv P T=true) (g:cs[a]?=some v):(part T cs a).run P w=.ok v w:=by
 simp [part,(mf (w:=w) h).1,g]
section
variable {w:World} {K:Value->World->Prop}
attribute [local irreducible] Run
end

attribute [local irreducible] Run CondV aw aI
structure Pd where
 name:ByteArray
 arity:Int
deriving DecidableEq
def Pd.cells (x:Pd):List Value:=[.string x.name,.int .i64 x.arity]
def Ip (t:T):Pd:=⟨t.name,t.kids.length⟩
def JB (x y:Pd):Bool:=decide (x.name=y.name) && decide (x.arity=y.arity)
end
section
open Go Go.RowKit
attribute [local irreducible] Run CondV aw aI
end
section
open Go Go.RowKit
attribute [local irreducible] Run CondV aw aI

def KD (l:List Pd) (x:Pd):Bool:=l.any fun y=>JB x y
def KB (l:List Pd) (x:Pd):List Pd:=if KD l x=true then l else l++[x]
end
section
open Go Go.RowKit

theorem Inv.lendAll {w0 w:World} {X:List Nat} {A:List Item} (M:aU) {S:af} (h:Inv w0 X (A++aS M) S w) :
  ∃ S',Sle S S'/\Ins S' M/\Inv w0 X A S' w/\∀ B w',Inv w0 X B S' w'->Inv w0 X (B++aS M) S w':=by
 obtain ⟨S',C,q,r,D⟩:=Inv.publishAll M h;have m:=h.nd;rw [bM,tN] at m;refine ⟨S',q,r,C,fun B w' i=>⟨i.size,i.os,i.tape,i.output,i.old,fun it l=>?_,?_,fun b j=>?_,fun b o j=>⟨(i.pub b o (q b o j)).1,fun g=>?_⟩⟩⟩
 ·rcases dh.1 l with l|l
  ·exact i.its it l
  ·obtain ⟨p,t,rfl⟩:=mF.1 l;exact (i.pub _ _ (r p t)).1
 ·rw [bM,tN];refine ⟨i.nd,m.2.1,fun a u b j e=>?_⟩;subst e;obtain ⟨p,t,rfl⟩:=gr.1 j;exact (i.pub _ _ (r p t)).2 u
 ·rw [bM] at j;rcases dh.1 j with j|j
  ·exact i.new b j
  ·exact h.new b (by rw [bM]; exact kG _ j)
 ·rw [bM] at g;rcases dh.1 g with g|g
  ·exact (i.pub b o (q b o j)).2 g
  ·exact (h.pub b o j).2 (by rw [bM]; exact kG _ g)
theorem Inv.openRow {w0 w:World} {X:List Nat} {A:List Item} {S:af} {v:Value} {e:TypeId} {k n:Nat} {xs:List Value} (h:Inv w0 X (A++[.row v e k n xs]) S w) :
  xs.length=n * k/\((v=.slice none 0 0/\n=0) ∨ ∃ g cap i,v=.slice (some ⟨g,0,none⟩) n cap/\n<=cap/\cap<=maxLen/\i.size=cap * k/\i.toList.take (n * k)=xs/\Inv w0 X (A++[.blk g (.cells i e)]) S w):=by
 have j:w.ownsRow 0 e k v n xs:=h.its (.row v e k n xs) (by simp);obtain ⟨p,j⟩:=j;refine ⟨p,?_⟩;rcases j with hn|⟨g,cap,i,rfl,_,q,l,m,o,r⟩
 ·exact .inl hn
 ·have hf:bF (A++[Item.blk g (.cells i e)])=bF (A++[Item.row (.slice (some ⟨g,0,none⟩) n cap) e k n xs]):=by
   simp [bF,Item.foot,Value.ownBlock]
  refine .inr ⟨g,cap,i,rfl,l,m,o,r,h.size,h.os,h.tape,h.output,h.old,fun it a=>?_,by rw [hf]; exact h.nd,by rw [hf]; exact h.new,by rw [hf]; exact h.pub⟩;rcases dh.1 a with a|a
  ·exact h.its it (iF _ a)
  ·simp at a;subst a;exact q
theorem Inv.closeRow {w0 w:World} {X:List Nat} {A:List Item} {S:af} {g cap k n:Nat} {a:Array Value} {e:TypeId} (h:Inv w0 X (A++[.blk g (.cells a e)]) S w) (hn:n<=cap) (hc:cap<=maxLen) (j:a.size=cap * k) :
  Inv w0 X (A++[.row (.slice (some ⟨g,0,none⟩) n cap) e k n (a.toList.take (n * k))]) S w:=by
 have l:w.heap[g]?=some (.cells a e):=h.its (.blk g (.cells a e)) (by simp);have hf:bF (A++[Item.row (.slice (some ⟨g,0,none⟩) n cap) e k n (a.toList.take (n * k))])=bF (A++[Item.blk g (.cells a e)]):=by
  simp [bF,Item.foot,Value.ownBlock]
 refine ⟨h.size,h.os,h.tape,h.output,h.old,fun it i=>?_,by rw [hf]; exact h.nd,by rw [hf]; exact h.new,by rw [hf]; exact h.pub⟩;rcases dh.1 i with i|i
 ·exact h.its it (iF _ i)
 ·simp at i;subst i;refine ⟨?_,.inr ⟨g,cap,a,rfl,aQ _,l,hn,hc,j,rfl⟩⟩;rw [mL,FL,j];exact tE (eV k hn)

section
attribute [local irreducible] Run CondV aw aI
end
end
section
open Go Go.RowKit

structure Grown {α:Type} (k:Nat) (R:aU->List Value->α->Prop) (Ls:List aU) (css:List (List Value)) (ys:List α):Prop where
 hL:Ls.length=ys.length
 hc:css.length=ys.length
 hk:∀ cs∈css,cs.length=k
 hR:∀ i (h:i<ys.length) (h1:i<Ls.length) (h2:i<css.length),R Ls[i] css[i] ys[i]
theorem Grown.nil {α:Type} (k:Nat) (R:aU->List Value->α->Prop):Grown k R [] [] ([]:List α):=⟨rfl,rfl,by simp,fun i h=>by simp at h⟩
theorem Grown.snoc {α:Type} {k:Nat} {R:aU->List Value->α->Prop} {Ls:List aU} {css:List (List Value)} {ys:List α} (h:Grown k R Ls css ys) {L:aU} {cs:List Value} {y:α} (hR:R L cs y) (g:cs.length=k) :
  Grown k R (Ls++[L]) (css++[cs]) (ys++[y]):=by
 refine ⟨by simp [h.hL],by simp [h.hc],fun c hc=>?_,fun i j o p=>?_⟩
 ·rcases dh.1 hc with hc|hc
  ·exact h.hk c hc
  ·simp at hc; subst hc; exact g
 ·have l:=h.hL;have m:=h.hc;by_cases a:i<ys.length
  ·rw [lz (by omega),lz (by omega),lz a];exact h.hR i a (by omega) (by omega)
  ·have:i=ys.length:=by simp at j; omega
   subst this;rw [m1 (by omega),m1 (by omega),m1 (by omega)];simp only [l,m,dY,pb];exact hR
theorem eK (k:Nat):∀ (css:List (List Value)) (i:Nat) (_:∀ cs∈css,cs.length=k) (h:i<css.length),(css.flatten.drop (i * k)).take k=css[i]
 | [],i,_,h=>by simp at h
 | c::css,0,hk,_=>by
  have:=hk c (cQ ..);rw [eP,jh,dk,GB (by omega),Ei (by omega)];rfl
 | c::css,i+1,hk,h=>by
  have:=hk c (cQ ..);rw [eP,ip,Nat.add_comm,<- Eu,List.drop_left' this];exact eK k css i (fun cs hc=>hk cs (c7 _ hc)) (by simpa using h)
abbrev ax (v:Value) (e:TypeId) (k:Nat) (css:List (List Value)):Item:=.row v e k css.length css.flatten
theorem Inv.rowTree {α:Type} {w0 w:World} {X:List Nat} {A:List Item} {S:af} {v:Value} {e:TypeId} {k:Nat} {R:aU->List Value->α->Prop} {Ls:List aU} {css:List (List Value)} {ys:List α}
  (h:Inv w0 X (A++(ax v e k css::aS Ls.flatten)) S w) (m:Grown k R Ls css ys):∃ L,TrSl k R L v ys/\Inv w0 X (A++aS L) S w:=by
 have t:List.Perm ((A++aS Ls.flatten)++[ax v e k css]) (A++(ax v e k css::aS Ls.flatten)):=by
  rw [d4];exact rB _ dy
 obtain ⟨M,r⟩:=(h.perm t).openRow;have j:=m.hc;have o:=m.hL;rcases r with ⟨rfl,N⟩|⟨g,cap,a,rfl,B,l,C,D,G⟩
 ·have:ys=[]:=kP (by omega);subst this;refine ⟨[],TrSl.nil (by simp [maxLen]),?_⟩;simpa [aS] using h.sub (ii _ _)
 ·by_cases J:ys=[]
  ·subst J;have:css=[]:=kP (by simpa using j);subst this;refine ⟨[],TrSl.nil l,?_⟩;simpa [aS] using h.sub (ii _ _)
  ·refine ⟨(g,.cells a e)::Ls.flatten,⟨_,cap,by rw [j],by omega,l,.inr ⟨g,a,e,Ls,rfl,rfl,o,by omega,fun i p q=>?_⟩⟩,?_⟩
   ·have u:i * k+k<=css.length * k:=by rw [<- ip]; exact eV k (by omega)
    have:=eK k css i m.hk (by omega);rw [<- D,EC,Es,tE (by omega)] at this;rw [bd,this];exact m.hR i p q (by omega)
   ·refine G.perm ?_;rw [d4];exact rB _ (dy (l₁:=[Item.blk g (.cells a e)]))
theorem dZ (v:Value) (e:TypeId) (k:Nat) (css:List (List Value)) (cs:List Value):Item.row v e k (css.length+1) (css.flatten++cs)=ax v e k (css++[cs]):=by
 simp [ax]
section
variable {P:Program} {w w0:World} {X:List Nat} {L:List Item} {S:af} {K:Value->World->Prop}
attribute [local irreducible] Run CondV aw aI
theorem fj (h:Inv w0 X L S w) {T ty e:TypeId} {k a:Nat} {z v:Value} {cs:List Bool} {css:List (List Value)} (i:Nat) (xs:List Value)
  (C:fY P T=some (e,k,a,z)) (g:0<k) (l:k<=65536) (D:L[i]?=some (ax v e k css)) (G:xs.length=k) (J:∀ u∈xs,u.oneCell'=true) (p:css.length+1<=4294967296) (t:a<=32768)
  {K:Value->Value->World->Prop} (hk:∀ B w',Inv w0 X (L.set i (ax B e k (css++[xs]))) S w'->K (.slice (some ⟨w.heap.size,0,none⟩) 1 1) B w') :
  Run P (be T 1 [(0,.agg xs.toArray)]) w fun u w'=>Run P (bn .append #[T,T] ty cs [v,u]) w' (K u):=by
 refine jN h C (by simp [Value.cells,G]) l g fun w' q=>?_;have r:i<L.length:=(gX.1 D).1;refine dH q i xs C g (by rw [Hd r]; exact D) (by omega) (m:=1) (o:=0) ?_ J p t fun B w' q=>?_
 ·intro j u M;rw [q.cellL (i:=L.length) (by rw [fP (a7 _),dY]; rfl)];rw [ct];simpa [Value.cells] using M
 ·refine hk _ _ ?_;rw [<- dZ];rw [Gy _ _ r] at q;exact q.sub (ii _ _)
end

section
attribute [local irreducible] Run CondV aw aI
theorem uc {g:List T} (C:∀ t∈g,∀ (S:af) (cs:List Value),RdT S cs t->wT t<=1048576->Tri Tryz.prog EB [.agg cs.toArray] [] S (uF S t))
  {S:af} {v:Value} (h:RdSl S 4 (RdT S) v g) (U:g.length+wL g<=1048576):Tri Tryz.prog rf [v] [] S (Hk 4 TrT S g):=by
 intro w a;refine nY.2 ?_;dsimp only[nY,aG];refine aL h ao ?_;refine ⟨fun i t w'=>∃ (k:Nat) (Ls:List aU) (css:List (List Value)),k<=g.length/\i=.int .i64 k/\Grown 4 TrT Ls css (g.take k)/\Inv w [] (ax t ac 4 css::aS Ls.flatten) S w',
  fun i _ _=>g.length - (intOf i).toNat,⟨0,[],[],aQ _,rfl,Grown.nil _ _,a.rowNil ac 4⟩,?_⟩
 intro V _ u _ _ _ _ _ _ _ _ _ w';rintro ⟨k,Ls,css,hk,rfl,q,a⟩;refine cq ?_;refine aR (fun r=>?_) (fun r=>?_)
 ·have j:k<g.length:=by omega
  have J:(g.take k).length=k:=by simp; omega
  have N:=q.hc;refine dx a h ao ad j (fun _ _=>RdT.length) fun cs l=>?_;have B:=cr j;have O:=ji B;have p:=l.length;refine aF a aZ fun D w' a=>?_;have a:=a.perm (M:=.blk D _::(ax u ac 4 css::aS Ls.flatten)) (dy (l₁:=[_]));refine al a 0 rfl ad (by simpa using p) rfl (by simpa using l.one) fun w' a=>?_;refine au a 0 ad rfl (by simpa using p) ?_;have a:Inv w [] (ax u ac 4 css::aS Ls.flatten) S w':=a.sub (jz _ _);refine Run.call0 zY z8 a (C _ B S cs l (by omega)) fun G I' S' w'=>?_;rintro ⟨rfl,o,L,rfl,rfl,m⟩ _ a;refine fj a 0 o bw (by omega) (by omega) rfl m.length m.one (by omega) (by omega) fun G w' a=>?_;refine bz (by omega) ?_;refine ⟨⟨k+1,Ls++[L],css++[o],j,rfl,?_,?_⟩,by simp [intOf]; omega⟩
  ·rw [mK j];exact q.snoc m m.length
  ·simp only [oc,eP,kH,cS,cG];exact a
 ·have:k=g.length:=by omega
  subst this;rw [mS] at q;obtain ⟨L,m,a⟩:=Inv.rowTree (A:=[]) a q;exact ⟨_,_,_,rfl,a,Ext.refl _ _ _,rfl,_,rfl,m⟩
theorem xL:∀ (t:T) (S:af) (cs:List Value),RdT S cs t->wT t<=1048576->Tri Tryz.prog EB [.agg cs.toArray] [] S (uF S t):=by
 refine T.ind fun k n s G C S cs h D=>?_;intro w g;obtain ⟨kv,rfl,p,q,r,j⟩:=RdT.iff.1 h;simp only [T.name,T.kids,T.kind,T.n] at p q r j ⊢;simp only [wT] at D;refine Bu.2 ?_;dsimp only[Bu,aG];refine bB g fun J w' g=>?_;refine aF g aZ fun M w' g=>?_;refine ag g 0 rfl av ar rfl ?_;refine Run.call0 oe pS g (uc C j (by omega)) fun i I' S' w'=>?_;rintro ⟨rfl,L,rfl,o⟩ _ g;have m:i.cells=#[i]/\i.oneCell'=true:=by obtain ⟨a,cap,rfl,_⟩:=o; exact ⟨rfl,rfl⟩
 refine dl g 0 rfl av ar rfl m.1 m.2 fun w' g=>?_;refine au g 0 ad rfl rfl ?_;refine al g 1 rfl ad rfl rfl ?_ fun w' g=>?_
 ·intro u B;have l:u∈([.int .i64 k,.int .i64 n,.string s,i]:List Value):=B;simp at l;rcases l with rfl|rfl|rfl|rfl <;> first|rfl|exact m.2
 refine a5 g 1 ad rfl rfl ?_;refine ⟨_,_,_,rfl,g.sub (fF [_,_] (aS L)),Ext.refl _ _ _,rfl,[.int .i64 k,.int .i64 n,.string s,i],L,rfl,rfl,TrT.iff.2 ⟨i,rfl,p,q,r,o⟩⟩
theorem v8 {a:List T} {S:af} {v:Value} (h:RdSl S 4 (RdT S) v a) (g:a.length+wL a<=1048576):Tri Tryz.prog rf [v] [] S (Hk 4 TrT S a):=
 uc (fun t _=>xL t) h g
end
end
section
open Go Go.RowKit
section
variable {w:World} {K:Value->World->Prop}
attribute [local irreducible] Run
theorem mC {a b:Int} {s:ByteArray} {k v:Value} (g:∃ p n m,v=.slice p n m) (hk:K (.agg #[.int .i64 a,.int .i64 b,.string s,k,v]) w):Run Tryz.prog (bP ae [(0,.agg #[.int .i64 a,.int .i64 b,.string s,k]),(1,v)]) w K:=by
 obtain ⟨p,n,m,rfl⟩:=g;refine Run.of (v:=.agg #[.int .i64 a,.int .i64 b,.string s,k,.slice p n m]) (w':=w) ?_ hk;unfold bP;rw [Sem.run_bind,run_build w ae _ #[.int .i64 a,.int .i64 b,.string s,k,.slice p n m] (by kernel_rfl),Result.andThen_ok];rfl
theorem gF {a b:Int} {s:ByteArray} {k:Value} (hk:K (.agg #[.int .i64 a,.int .i64 b,.string s,k,.slice none 0 0]) w):Run Tryz.prog (bP ae [(0,.agg #[.int .i64 a,.int .i64 b,.string s,k])]) w K:=by
 refine Run.of (v:=.agg #[.int .i64 a,.int .i64 b,.string s,k,.slice none 0 0]) (w':=w) ?_ hk;unfold bP;rw [Sem.run_bind,run_build w ae _ #[.int .i64 a,.int .i64 b,.string s,k,.slice none 0 0] (by kernel_rfl),Result.andThen_ok];rfl
theorem lm {a b:Int} {s:ByteArray} (hk:K (.agg #[.int .i64 a,.int .i64 b,.string s,.slice none 0 0]) w):Run Tryz.prog (bP ac [(0,.int .i64 a),(1,.int .i64 b),(2,.string s)]) w K:=by
 refine Run.of (v:=.agg #[.int .i64 a,.int .i64 b,.string s,.slice none 0 0]) (w':=w) ?_ hk;unfold bP;rw [Sem.run_bind,run_build w ac _ #[.int .i64 a,.int .i64 b,.string s,.slice none 0 0] (by kernel_rfl),Result.andThen_ok];rfl
end
section
attribute [local irreducible] Run CondV aw aI
def jj (B B2 B2':Item) (M1 M2:aU) (d2 d5 d7:Bool):List Item:=B::(match d7 with|true=>B2'|false=>B2)::((match d2 with|true=>aS M1|false=>[])++(match d5 with|true=>aS M2|false=>[]))
theorem sV {c:C} {S:af} {cs:List Value} (h:RdC S cs c) (hw:wC c<=1048576):Tri Tryz.prog wK [.agg cs.toArray] [] S (IA S c):=by
 intro w g;obtain ⟨hd,O,rfl,h1,h2⟩:=h;have a3:=h1;obtain ⟨kv,rfl,g1,g2,g3,g4⟩:=RdT.iff.1 h1;unfold wC at hw;refine lb.2 ?_;dsimp only[lb,aG];refine bB g fun M w' g=>?_;refine aF g bZ fun B w' g=>?_;have g:Inv w [] [.blk M (.cells #[.int .i64 c.head.kind,.int .i64 c.head.n,.string c.head.name,kv,O] ae),.blk B (.cells #[.int .i64 0,.int .i64 0,.string ⟨#[]⟩,.slice none 0 0,.slice none 0 0] ae)] S w':=g;refine ⟨fun D x9 l x7 x6 x5 x4 x3 G=>Fx D 0 [x3=.pointer (some ⟨M,0,none⟩),x4=.agg #[.int .i64 c.head.kind,.int .i64 c.head.n,.string c.head.name,kv],True,x6=.pointer (some ⟨M,4,none⟩),x7=O,True,True,True]/\∃ M1 M2 i,(D 2=true->x5=.agg #[.int .i64 c.head.kind,.int .i64 c.head.n,.string c.head.name,i]/\TrT M1 [.int .i64 c.head.kind,.int .i64 c.head.n,.string c.head.name,i] c.head)/\(D 5=true->TrSl 4 TrT M2 l c.body)/\(D 6=true->x9=.agg #[.int .i64 c.head.kind,.int .i64 c.head.n,.string c.head.name,i,l])/\(D 5=true->D 2=true)/\(D 6=true->D 5=true)/\(D 7=true->D 6=true)/\Inv w [] (jj (.blk M (.cells #[.int .i64 c.head.kind,.int .i64 c.head.n,.string c.head.name,kv,O] ae)) (.blk B (.cells #[.int .i64 0,.int .i64 0,.string ⟨#[]⟩,.slice none 0 0,.slice none 0 0] ae)) (.blk B (.cells #[.int .i64 c.head.kind,.int .i64 c.head.n,.string c.head.name,i,l] ae)) M1 M2 (D 2) (D 5) (D 7)) S G,⟨Fx.nil _ _,⟨[],[],undef,aP,aP,aP,aP,aP,aP,g.draw⟩⟩,⟨?_,?_,?_,?_,?_,?_,?_,?_,trivial⟩,?_⟩;all_goals (intro D J; intros; rename_i x9 l x7 x6 x5 x4 x3 G U; have j:=U.1; obtain ⟨⟨c9,cX,cZ,c4,cY,c8,cB,df,_⟩,⟨M1,M2,i,m,o,p,t,q,r,g⟩⟩:=U)
 ·refine ay cn ?_;exact ⟨j.set 0 rfl,⟨M1,M2,i,m,o,p,t,q,r,g⟩⟩
 ·obtain rfl:=c9 ‹_›;refine ew g 0 [.int .i64 c.head.kind,.int .i64 c.head.n,.string c.head.name,kv] ad rfl rfl FA ?_;exact ⟨j.set 1 rfl,⟨M1,M2,i,m,o,p,t,q,r,g⟩⟩
 ·obtain rfl:=cX ‹_›;have f5:D 5=false:=bS.2 fun h=>by rw [t h] at J; cases J
  have N:D 6=false:=bS.2 fun h=>by rw [q h] at f5; cases f5
  have Y:D 7=false:=bS.2 fun h=>by rw [r h] at N; cases N
  rw [J,f5,Y] at g;refine Run.call0 zY z8 g (xL c.head S _ a3 (by omega)) fun v' I' S G=>?_;rintro ⟨rfl,a6,M1,rfl,rfl,V⟩ _ g;obtain ⟨i,rfl,_⟩:=TrT.iff.1 V;have m:aB D 2 2=true->Value.agg #[.int .i64 c.head.kind,.int .i64 c.head.n,.string c.head.name,i]=Value.agg #[.int .i64 c.head.kind,.int .i64 c.head.n,.string c.head.name,i]/\TrT M1 [.int .i64 c.head.kind,.int .i64 c.head.n,.string c.head.name,i] c.head:=fun _=>⟨rfl,V⟩
  have p:=fun (h:D 6=true)=>(absurd h (by rw [N]; decide):x9=.agg #[.int .i64 c.head.kind,.int .i64 c.head.n,.string c.head.name,i,l])
  have t:=fun (_:aB D 2 5=true)=>(rfl:aB D 2 2=true)
  have g:Inv w [] (jj (.blk M (.cells #[.int .i64 c.head.kind,.int .i64 c.head.n,.string c.head.name,kv,O] ae)) (.blk B (.cells #[.int .i64 0,.int .i64 0,.string ⟨#[]⟩,.slice none 0 0,.slice none 0 0] ae)) (.blk B (.cells #[.int .i64 c.head.kind,.int .i64 c.head.n,.string c.head.name,i,l] ae)) M1 M2 true (D 5) (D 7)) S G:=by
   rw [f5,Y];simpa [jj] using g
  exact ⟨j.set 2 (by first|assumption|trivial),⟨M1,M2,i,m,o,p,t,q,r,g⟩⟩
 ·refine ay aT ?_;exact ⟨j.set 3 rfl,⟨M1,M2,i,m,o,p,t,q,r,g⟩⟩
 ·obtain rfl:=c4 ‹_›;refine aJ g 0 ar rfl rfl ?_;exact ⟨j.set 4 (by first|assumption|trivial),⟨M1,M2,i,m,o,p,t,q,r,g⟩⟩
 ·have CU:=cY ‹_›;have N:D 6=false:=bS.2 fun h=>by rw [q h] at J; cases J
  have Y:D 7=false:=bS.2 fun h=>by rw [r h] at N; cases N
  rw [J,‹D 2=true›,Y] at g;refine Run.call0 oe pS g (by rw [CU]; exact v8 h2 (by omega)) fun v' I' S G=>?_;rintro ⟨rfl,M2,rfl,a1⟩ _ g;have o:=fun (_:aB D 5 5=true)=>a1;have p:=fun (h:D 6=true)=>(absurd h (by rw [N]; decide):x9=.agg #[.int .i64 c.head.kind,.int .i64 c.head.n,.string c.head.name,i,v'])
  have q:=fun (_:aB D 5 6=true)=>(rfl:aB D 5 5=true)
  have t:=fun (_:aB D 5 5=true)=>‹D 2=true›;have g:Inv w [] (jj (.blk M (.cells #[.int .i64 c.head.kind,.int .i64 c.head.n,.string c.head.name,kv,O] ae)) (.blk B (.cells #[.int .i64 0,.int .i64 0,.string ⟨#[]⟩,.slice none 0 0,.slice none 0 0] ae)) (.blk B (.cells #[.int .i64 c.head.kind,.int .i64 c.head.n,.string c.head.name,i,v'] ae)) M1 M2 (D 2) true (D 7)) S G:=by
   rw [‹D 2=true›,Y];simpa [jj] using g
  exact ⟨j.set 5 (by first|assumption|trivial),⟨M1,M2,i,m,o,p,t,q,r,g⟩⟩
 ·have Ka:=cZ ‹_›;have FU:=c8 ‹_›;have Z:=(m ‹D 2=true›).1;subst Z;refine mC (by obtain ⟨a8,a4,a2,_⟩:=o ‹D 5=true›; exact ⟨_,_,_,a2⟩) ?_;have p:aB D 6 6=true->Value.agg #[.int .i64 c.head.kind,.int .i64 c.head.n,.string c.head.name,i,l]=Value.agg #[.int .i64 c.head.kind,.int .i64 c.head.n,.string c.head.name,i,l]:=fun _=>rfl;have r:=fun (_:aB D 6 7=true)=>(rfl:aB D 6 6=true)
  have q:=fun (_:aB D 6 6=true)=>‹D 5=true›;exact ⟨j.set 6 (by first|assumption|trivial),⟨M1,M2,i,m,o,p,t,q,r,g⟩⟩
 ·have zK:=cB ‹_›;have q6:=p ‹D 6=true›;subst q6;have Z:=(m ‹D 2=true›).2;have q5:=o ‹D 5=true›;rw [J,‹D 2=true›,‹D 5=true›] at g;refine al g 1 rfl aC rfl rfl ?_ fun G g=>?_
  ·intro u hu;have a0:u∈([.int .i64 c.head.kind,.int .i64 c.head.n,.string c.head.name,i,l]:List Value):=hu;simp at a0;have o1:i.oneCell'=true:=Z.one i (by simp);have o2:l.oneCell'=true:=by obtain ⟨a,cap,rfl,_⟩:=q5; rfl
   rcases a0 with rfl|rfl|rfl|rfl|rfl <;> first|rfl|exact o1|exact o2
  have r:=fun (_:aB D 7 7=true)=>‹D 6=true›;have g:Inv w [] (jj (.blk M (.cells #[.int .i64 c.head.kind,.int .i64 c.head.n,.string c.head.name,kv,O] ae)) (.blk B (.cells #[.int .i64 0,.int .i64 0,.string ⟨#[]⟩,.slice none 0 0,.slice none 0 0] ae)) (.blk B (.cells #[.int .i64 c.head.kind,.int .i64 c.head.n,.string c.head.name,i,l] ae)) M1 M2 (D 2) (D 5) true) S G:=by
   rw [‹D 2=true›,‹D 5=true›];exact g
  exact ⟨j.set 7 trivial,⟨M1,M2,i,m,o,p,t,q,r,g⟩⟩
 obtain ⟨rfl,rfl,Ka,rfl,CU,FU,zK,_,_⟩:=j.all;have KJ:D 2=true:=by assumption
 have Kt:D 5=true:=by assumption
 have sW:D 7=true:=by assumption
 clear j c9 cX cZ c4 cY c8 cB df;have Z:=(m KJ).2;have q5:=o Kt;rw [KJ,Kt,sW] at g;refine a5 g 1 aC rfl rfl ?_;refine ⟨_,_,_,rfl,g.sub (fF [_,_] (aS M1++aS M2)),Ext.refl _ _ _,rfl,_,M1++M2,rfl,by rw [cG],_,l,M1,M2,rfl,rfl,Z,q5⟩
end
end
section
open Go Go.RowKit
theorem RdC.one {S:af} {cs:List Value} {c:C} (h:RdC S cs c):∀ u∈cs,u.oneCell'=true:=by
 obtain ⟨j,l,rfl,i,a,cap,rfl,_⟩:=h;intro u g;rcases dh.1 g with g|g
 ·exact i.one u g
 ·simp at g; subst g; rfl
section
attribute [local irreducible] Run CondV aw aI
theorem Inv.rowSlice {w0 w:World} {X:List Nat} {L:List Item} {S:af} {v:Value} {e:TypeId} {k n:Nat} {xs:List Value} (h:Inv w0 X L S w) (i:Nat) (j:L[i]?=some (.row v e k n xs)):∃ a m c,v=.slice a m c:=by
 have l:w.ownsRow 0 e k v n xs:=h.its (.row v e k n xs) (fw j);rcases l.2 with ⟨rfl,_⟩|⟨g,cap,o,rfl,_⟩
 ·exact ⟨_,_,_,rfl⟩
 ·exact ⟨_,_,_,rfl⟩
def aH (B1 B2 B3 B3' r r':Item) (rest:List Item) (M:aU) (B27:Item) (d7 d8 d9 d11:Bool):List Item:=
 B1::B2::(match d11 with|true=>B3'|false=>B3)::(match d9 with|true=>r'|false=>r)::(rest++((match d7 with|true=>aS M|false=>[])++(match d8 with|true=>[B27]|false=>[])))

theorem fS:∀ (t:T) (S:af) (cs:List Value),RdT S cs t->wT t<=1048576->Tri Tryz.prog nn [.agg cs.toArray] [] S (uF S t):=by
 refine T.ind fun k n s G ih S cs h hw=>?_;intro w g;obtain ⟨kv,rfl,h1,h2,hs,a0⟩:=RdT.iff.1 h;simp only [T.name,T.kids,T.kind,T.n] at h1 h2 hs a0 ⊢;simp only [wT] at hw;refine i0.2 ?_;dsimp only[i0,aG];refine bB g fun b1 w' g=>?_;refine aF g aZ fun b2 w' g=>?_;refine ag g 0 rfl aV az rfl ?_;refine ag g 0 rfl aM az rfl ?_;refine ag g 0 rfl aW aO rfl ?_;refine lm ?_;refine aF g aZ fun b3 w' g=>?_;refine al g 2 rfl ad rfl rfl (by simp [Value.oneCell']) fun w' g=>?_;have g:=g.rowNil ac 4;refine ⟨fun i w'=>∃ (j:Nat) (l:Value) (Ls:List aU) (css:List (List Value)),j<=G.length/\i=.int .i64 j/\Grown 4 TrT Ls css (G.take j)/\
   Inv w [] (.blk b1 (.cells #[.int .i64 k,.int .i64 n,.string s,kv] ac)::.blk b2 (.cells #[.int .i64 0,.int .i64 0,.string ⟨#[]⟩,.slice none 0 0] ac)::.blk b3 (.cells #[.int .i64 k,.int .i64 n,.string s,l] ac)::ax l ac 4 css::aS Ls.flatten) S w',
  fun i _=>G.length - (intOf i).toNat,⟨0,_,[],[],aQ _,rfl,Grown.nil _ _,g⟩,?_⟩
 intro t4 _ _ _ _ _ _ _ _ _ _ _ _ _ _ _ _ _ _ w';rintro ⟨j,l,Ls,css,hj,rfl,hg,g⟩;refine ag g 0 rfl av ar rfl ?_;refine aL a0 ao ?_;refine cq ?_;refine aR (fun a8=>?_) (fun a8=>?_)
 ·have Y:j<G.length:=by omega
  have b4:(G.take j).length=j:=by simp; omega
  have b5:=hg.hc;have hm:=cr Y;have b6:=ji hm;obtain ⟨b,o,cap,c,E,fz,rfl,hS,hR⟩:=a0.at_ Y;refine ⟨fun D sJ U tl sg gu rV uC vg qB mc sG w_=>Fx D 0 [sG=.pointer (some ⟨b3,3,none⟩),mc=l,qB=.pointer (some ⟨b1,3,none⟩),vg=.slice (some ⟨b,o,none⟩) (G).length cap,uC=.int .i64 j,rV=.pointer (some ⟨b,o+j * 4,none⟩),gu=.agg (bd c (o+j * 4) 4).toArray,True,True,True,sJ=.pointer (some ⟨b3,3,none⟩),True]/\∃ M a r,(D 7=true->sg=.agg a.toArray/\TrT M a (G)[j])/\(D 8=true->tl=.slice (some ⟨r,0,none⟩) 1 1)/\(D 8=true->D 7=true)/\(D 9=true->D 8=true)/\(D 11=true->D 9=true)/\(D 11=true->D 1=true)/\Inv w [] (aH (.blk b1 (.cells #[.int .i64 k,.int .i64 n,.string s,.slice (some ⟨b,o,none⟩) G.length cap] ac)) (.blk b2 (.cells #[.int .i64 0,.int .i64 0,.string ⟨#[]⟩,.slice none 0 0] ac)) (.blk b3 (.cells #[.int .i64 k,.int .i64 n,.string s,l] ac)) (.blk b3 (.cells #[.int .i64 k,.int .i64 n,.string s,U] ac)) (ax l ac 4 css) (ax U ac 4 (css++[a])) (aS Ls.flatten) M (.blk r (.cells a.toArray ac)) (D 7) (D 8) (D 9) (D 11)) S w_,⟨Fx.nil _ _,⟨[],[],0,aP,aP,aP,aP,aP,aP,by simpa [aH,aS] using g.draw⟩⟩,⟨?_,?_,?_,?_,?_,?_,?_,?_,?_,?_,?_,?_,trivial⟩,?_⟩;all_goals (intro D Z; intros; rename_i sJ U tl sg gu rV uC vg qB mc sG w_ a2; have q:=a2.1; obtain ⟨⟨c9,cX,cZ,c4,cY,c8,cB,df,dK,eF,cW,dR,_⟩,⟨M,a,r,C,V,N,J,p,O,g⟩⟩:=a2)
  ·refine ay av ?_;exact ⟨q.set 0 rfl,⟨M,a,r,C,V,N,J,p,O,g⟩⟩
  ·obtain rfl:=c9 ‹_›;have B:D 11=false:=bS.2 fun h=>by rw [O h] at Z; cases Z
   refine aJ (b:=b3) g 2 (c:=(#[.int .i64 k,.int .i64 n,.string s,l])) ar (by rw [B]; rfl) rfl ?_;have O:=fun (_:aB D 1 11=true)=>(rfl:aB D 1 1=true)
   exact ⟨q.set 1 rfl,⟨M,a,r,C,V,N,J,p,O,g⟩⟩
  ·refine ay av ?_;exact ⟨q.set 2 rfl,⟨M,a,r,C,V,N,J,p,O,g⟩⟩
  ·obtain rfl:=cZ ‹_›;refine aJ g 0 ar rfl rfl ?_;exact ⟨q.set 3 rfl,⟨M,a,r,C,V,N,J,p,O,g⟩⟩
  ·exact ⟨q.set 4 rfl,⟨M,a,r,C,V,N,J,p,O,g⟩⟩
  ·obtain rfl:=c4 ‹_›;obtain rfl:=cY ‹_›;refine aN ao Y ?_;exact ⟨q.set 5 rfl,⟨M,a,r,C,V,N,J,p,O,g⟩⟩
  ·obtain rfl:=c8 ‹_›;refine dC ad hR.length (fun j v hj=>by rw [g.cellS hS]; exact aX rfl j v hj) ?_;exact ⟨q.set 6 rfl,⟨M,a,r,C,V,N,J,p,O,g⟩⟩
  ·obtain rfl:=cB ‹_›;have f8:D 8=false:=bS.2 fun h=>by rw [N h] at Z; cases Z
   have f9:D 9=false:=bS.2 fun h=>by rw [J h] at f8; cases f8
   have B:D 11=false:=bS.2 fun h=>by rw [p h] at f9; cases f9
   rw [Z,f8,f9,B] at g;refine Run.call0 eQ fa g (ih _ (cr Y) S _ hR (by omega)) fun v' I' S w_=>?_;rintro ⟨rfl,a,M,rfl,rfl,hT⟩ _ g;have C:aB D 7 7=true->Value.agg a.toArray=Value.agg a.toArray/\TrT M a (G)[j]:=fun _=>⟨rfl,hT⟩
   have N:=fun (_:aB D 7 8=true)=>(rfl:aB D 7 7=true)
   have g:Inv w [] (aH (.blk b1 (.cells #[.int .i64 k,.int .i64 n,.string s,.slice (some ⟨b,o,none⟩) G.length cap] ac)) (.blk b2 (.cells #[.int .i64 0,.int .i64 0,.string ⟨#[]⟩,.slice none 0 0] ac)) (.blk b3 (.cells #[.int .i64 k,.int .i64 n,.string s,l] ac)) (.blk b3 (.cells #[.int .i64 k,.int .i64 n,.string s,U] ac)) (ax l ac 4 css) (ax U ac 4 (css++[a])) (aS Ls.flatten) M (.blk r (.cells a.toArray ac)) true (D 8) (D 9) (D 11)) S w_:=by
    rw [f8,f9,B];simpa [aH] using g
   exact ⟨q.set 7 (by first|assumption|trivial),⟨M,a,r,C,V,N,J,p,O,g⟩⟩
  ·have zJ:=df ‹_›;have f9:D 9=false:=bS.2 fun h=>by rw [J h] at Z; cases Z
   have B:D 11=false:=bS.2 fun h=>by rw [p h] at f9; cases f9
   obtain ⟨q7,hT⟩:=C ‹D 7=true›;subst q7;rw [‹D 7=true›,Z,f9,B] at g;refine dI g bw (by simp [Value.cells,hT.length]) (by omega) (by omega) fun r w_ g=>?_;have C:aB D 8 7=true->Value.agg a.toArray=Value.agg a.toArray/\TrT M a (G)[j]:=fun _=>⟨rfl,hT⟩
   have V:=fun (_:aB D 8 8=true)=>(rfl:Value.slice (some ⟨r,0,none⟩) 1 1=_)
   have N:=fun (_:aB D 8 8=true)=>‹D 7=true›;have J:=fun (_:aB D 8 9=true)=>(rfl:aB D 8 8=true)
   have g:Inv w [] (aH (.blk b1 (.cells #[.int .i64 k,.int .i64 n,.string s,.slice (some ⟨b,o,none⟩) G.length cap] ac)) (.blk b2 (.cells #[.int .i64 0,.int .i64 0,.string ⟨#[]⟩,.slice none 0 0] ac)) (.blk b3 (.cells #[.int .i64 k,.int .i64 n,.string s,l] ac)) (.blk b3 (.cells #[.int .i64 k,.int .i64 n,.string s,U] ac)) (ax l ac 4 css) (ax U ac 4 (css++[a])) (aS Ls.flatten) M (.blk r (.cells a.toArray ac)) (D 7) true (D 9) (D 11)) S w_:=by
    rw [‹D 7=true›,f9,B];simpa [aH,Value.cells] using g
   exact ⟨q.set 8 (by first|assumption|trivial),⟨M,a,r,C,V,N,J,p,O,g⟩⟩
  ·obtain rfl:=cX ‹_›;have wZ:=dK ‹_›;have B:D 11=false:=bS.2 fun h=>by rw [p h] at Z; cases Z
   have q8:=V ‹D 8=true›;subst q8;obtain ⟨_,hT⟩:=C ‹D 7=true›;rw [‹D 7=true›,‹D 8=true›,Z,B] at g;have a3:((aH (.blk b1 (.cells #[.int .i64 k,.int .i64 n,.string s,.slice (some ⟨b,o,none⟩) G.length cap] ac)) (.blk b2 (.cells #[.int .i64 0,.int .i64 0,.string ⟨#[]⟩,.slice none 0 0] ac)) (.blk b3 (.cells #[.int .i64 k,.int .i64 n,.string s,mc] ac)) (.blk b3 (.cells #[.int .i64 k,.int .i64 n,.string s,U] ac)) (ax mc ac 4 css) (ax U ac 4 (css++[a])) (aS Ls.flatten) M (.blk r (.cells a.toArray ac)) true true false false))[4+(aS Ls.flatten).length+(aS M).length]?=some (.blk r (.cells a.toArray ac)):=by
    have e4:4+(aS Ls.flatten).length+(aS M).length=((aS Ls.flatten).length+(aS M).length)+1+1+1+1:=by omega
    rw [e4];simp only [aH,iq];rw [fP (by omega),pE,fP (a7 _),dY]; rfl
   refine dH g 3 a bw (by omega) rfl (by rw [hT.length]) (m:=1) (o:=0) ?_ hT.one (by omega) (by omega) fun v' w_ g=>?_
   ·intro i u hi;rw [g.cellL a3,ct];simpa using hi
   rw [dZ] at g;have J:=fun (_:aB D 9 9=true)=>‹D 8=true›;have p:=fun (_:aB D 9 11=true)=>(rfl:aB D 9 9=true)
   have g:Inv w [] (aH (.blk b1 (.cells #[.int .i64 k,.int .i64 n,.string s,.slice (some ⟨b,o,none⟩) G.length cap] ac)) (.blk b2 (.cells #[.int .i64 0,.int .i64 0,.string ⟨#[]⟩,.slice none 0 0] ac)) (.blk b3 (.cells #[.int .i64 k,.int .i64 n,.string s,mc] ac)) (.blk b3 (.cells #[.int .i64 k,.int .i64 n,.string s,v'] ac)) (ax mc ac 4 css) (ax v' ac 4 (css++[a])) (aS Ls.flatten) M (.blk r (.cells a.toArray ac)) (D 7) (D 8) true (D 11)) S w_:=by
    rw [‹D 7=true›,‹D 8=true›,B];exact g
   exact ⟨q.set 9 (by first|assumption|trivial),⟨M,a,r,C,V,N,J,p,O,g⟩⟩
  ·refine ay av ?_;exact ⟨q.set 10 rfl,⟨M,a,r,C,V,N,J,p,O,g⟩⟩
  ·obtain rfl:=cW ‹_›;have xN:=eF ‹_›;rw [‹D 7=true›,‹D 8=true›,‹D 9=true›,Z] at g;obtain ⟨va,vn,vc,a1⟩:=Inv.rowSlice g 3 rfl;refine di g 2 (n:=1) (by rw [a1]; rfl) (by decide +kernel) rfl (by simp) (by rw [a1]; simp [Value.cells,Value.oneCell']) fun w_ g=>?_;have a4:Value.cells U=#[U]:=by rw [a1]; rfl
   rw [a4] at g;have O:=fun (_:aB D 11 11=true)=>‹D 1=true›;have p:=fun (_:aB D 11 11=true)=>‹D 9=true›;have g:Inv w [] (aH (.blk b1 (.cells #[.int .i64 k,.int .i64 n,.string s,.slice (some ⟨b,o,none⟩) G.length cap] ac)) (.blk b2 (.cells #[.int .i64 0,.int .i64 0,.string ⟨#[]⟩,.slice none 0 0] ac)) (.blk b3 (.cells #[.int .i64 k,.int .i64 n,.string s,l] ac)) (.blk b3 (.cells #[.int .i64 k,.int .i64 n,.string s,U] ac)) (ax l ac 4 css) (ax U ac 4 (css++[a])) (aS Ls.flatten) M (.blk r (.cells a.toArray ac)) (D 7) (D 8) (D 9) true) S w_:=by
    rw [‹D 7=true›,‹D 8=true›,‹D 9=true›];exact g
   exact ⟨q.set 11 trivial,⟨M,a,r,C,V,N,J,p,O,g⟩⟩
  obtain ⟨rfl,rfl,rfl,rfl,rfl,rfl,rfl,zJ,wZ,xN,rfl,_,_⟩:=q.all;have sW:D 7=true:=by assumption
  have wl:D 8=true:=by assumption
  have FO:D 9=true:=by assumption
  have vo:D 11=true:=by assumption
  clear q c9 cX cZ c4 cY c8 cB df dK eF cW dR;obtain ⟨_,hT⟩:=C sW;rw [sW,wl,FO,vo] at g;refine bz (by omega) ?_;refine ⟨⟨j+1,U,Ls++[M],css++[a],Y,rfl,?_,?_⟩,by simp [intOf]; omega⟩
  ·rw [mK Y];exact hg.snoc hT hT.length
  ·simp only [oc,eP,kH,cS,cG];refine g.sub ?_;simp only [aH];rw [<- d4];exact (((ii _ _).cons_cons _).cons_cons _).cons_cons _ |>.cons_cons _
 ·have:j=G.length:=by omega
  subst this;rw [mS] at hg;obtain ⟨va,vn,vc,a9⟩:=g.rowSlice 3 rfl;have b0:l.oneCell'=true:=by rw [a9]; rfl
  refine au g 2 ad rfl rfl ?_;refine al g 1 rfl ad rfl rfl ?_ fun w' g=>?_
  ·intro u hu;have a6:u∈([.int .i64 k,.int .i64 n,.string s,l]:List Value):=hu;simp at a6;rcases a6 with rfl|rfl|rfl|rfl <;> first|rfl|exact b0
  refine a5 g 1 ad rfl rfl ?_;have g:Inv w [] ([]++(ax l ac 4 css::aS Ls.flatten)) S w':=g.sub (fF [_,_,_] _);obtain ⟨L,hT,g⟩:=Inv.rowTree g hg;exact ⟨_,_,_,rfl,g,Ext.refl _ _ _,rfl,_,L,rfl,rfl,TrT.iff.2 ⟨l,rfl,h1,h2,hs,hT⟩⟩
end
end
section
open Go Go.RowKit
attribute [local irreducible] Run CondV aw aI

def Fc (t u:T):Bool:=decide (t.kind=u.kind) && (decide (t.n=u.n) && (decide (t.name=u.name) && decide (t.kids.length=u.kids.length)))
end
section
open Go Go.RowKit
attribute [local irreducible] Run CondV aw aI
end
section
open Go Go.RowKit

theorem iN {n:Int}:∀ (l:List MapEntry) (i:Nat),(∀ e∈l,∃ m,e.key=.int .i64 m)->
  (∃ j,∃ e∈l,e.key=.int .i64 n/\Instr.findNow (.int .i64) (.int .i64 n) l i=some (some (j,e.val))) ∨ ((∀ e∈l,e.key≠.int .i64 n)/\Instr.findNow (.int .i64) (.int .i64 n) l i=some none)
 | [],i,_=>.inr ⟨by simp,rfl⟩
 | e::l,i,h=>by
  obtain ⟨m,p⟩:=h e (cQ ..);have q:Instr.sameNow (.int .i64) (.int .i64 n) e.key=some (n == m):=by rw [p]; rfl
  by_cases a:n=m
  ·refine .inl ⟨i,e,cQ ..,by rw [p,a],?_⟩;have:(n == m)=true:=by simpa using a
   rw [Instr.findNow,q,this]
  ·have t:(n == m)=false:=by simpa using a
   rcases iN l (i+1) (fun e u=>h e (c7 _ u)) with ⟨j,g,r,hk,hf⟩|⟨hk,hf⟩
   ·exact .inl ⟨j,g,c7 _ r,hk,by rw [Instr.findNow,q,t]; exact hf⟩
   ·refine .inr ⟨fun x o=>?_,by rw [Instr.findNow,q,t]; exact hf⟩;rcases fm.1 o with rfl|o
    ·rw [p];intro g;simp only [Value.int.injEq,qt] at g;exact a g.symm
    ·exact hk x o
section
variable {P:Program} {w w0:World} {X:List Nat} {L:List Item} {S:af} {K:Value->World->Prop}
attribute [local irreducible] Run CondV aw aI
theorem fX {g:TypeId} {d:TypeDesc} {k:Value} {l:List MapEntry} {a:Option (Nat × Value)} (i:P.underlying g=some d) (h:Instr.findNow d k l 0=some a):(Instr.findKey g k l).run P w=.ok a w:=by
 simp [Instr.findKey,run_underlying i,Result.andThen,h]
theorem EX (h:Inv w0 X L S w) {T ty:TypeId} (hk:∀ b w',Inv w0 X (L++[.blk b (.map #[] 0)]) S w'->K (.map (some b)) w'):Run P (sOp (.makeMap T none) ty) w K:=by
 refine Run.of (v:=.map (some w.heap.size)) (w':={ w with heap:=w.heap.push (.map #[] 0) }) ?_ (hk _ _ (h.alloc _));simp [sOp,execOp,Instr.makeMap,newObj,Sem.run]
theorem tZ (h:Inv w0 X L S w) {T u p ty:TypeId} {b a:Nat} {q:Array MapEntry} {n:Int} {z v:Value} {ok:Bool} (i:Nat) (G:P.underlying T=some (.map u p)) (m:P.underlying u=some (.int .i64))
  (r:fB P p=some z) (M:L[i]?=some (.blk b (.map q a)))
  (hf:(∃ j,Instr.findNow (.int .i64) (.int .i64 n) q.toList 0=some (some (j,v))/\ok=true) ∨ (Instr.findNow (.int .i64) (.int .i64 n) q.toList 0=some none/\v=z/\ok=false))
  (hk:K (.tuple #[v,.bool ok]) w):Run P (sOp (.lookup T (.const (.map (some b))) (.const (.int .i64 n)) true) ty) w K:=by
 have N:w.heap[b]?=some (.map q a):=h.its _ (fw M);have t:∀ e,(Instr.checkKey e 10000 u (.int .i64 n)).run P w=.ok () w:=fun e=>by
  rw [show (10000:Nat)=9999+1 from rfl,Instr.checkKey];simp [run_underlying m]
 obtain ⟨g,B,C⟩:∃ g,P.info? p=some g/\g.zero=some z:=by
  unfold fB at r;cases l:P.info? p with
  | none=>rw [l] at r; simp at r
  | some g=>rw [l] at r; exact ⟨g,rfl,by simpa using r⟩
 have D:(zeroValue p).run P w=.ok z w:=by simp [zeroValue,typeInfo,B,C]
 refine Run.of ?_ hk;have J:(getObj b).run P w=.ok (.map q a) w:=by simp [getObj,Sem.run,N]
 rcases hf with ⟨j,hf,rfl⟩|⟨hf,rfl,rfl⟩
 ·have o:=fX (P:=P) (w:=w) m hf;simp [sOp,execOp,ev0,evE,Instr.lookup,run_underlying G,J,t,o]
 ·have o:=fX (P:=P) (w:=w) m hf;simp [sOp,execOp,ev0,evE,Instr.lookup,run_underlying G,J,t,o,D]
theorem uV (h:Inv w0 X L S w) {T l t ty:TypeId} {b a:Nat} {g:Array MapEntry} {n:Int} {v:Value} (i:Nat) (u:P.underlying T=some (.map l t)) (j:P.underlying l=some (.int .i64))
  (q:L[i]?=some (.blk b (.map g a))) (hf:Instr.findNow (.int .i64) (.int .i64 n) g.toList 0=some none)
  (hk:∀ w',Inv w0 X (L.set i (.blk b (.map (g.push { key:=.int .i64 n,val:=v,born:=a }) (a+1)))) S w'->K undef w') :
  Run P (sOp (.mapUpdate T (.const (.map (some b))) (.const (.int .i64 n)) (.const v)) ty) w K:=by
 have r:w.heap[b]?=some (.map g a):=h.its _ (fw q);have m:∀ e,(Instr.checkKey e 10000 l (.int .i64 n)).run P w=.ok () w:=fun e=>by
  rw [show (10000:Nat)=9999+1 from rfl,Instr.checkKey];simp [run_underlying j]
 have B:(getObj b).run P w=.ok (.map g a) w:=by simp [getObj,Sem.run,r]
 have o:=fX (P:=P) (w:=w) j hf;refine Run.ofSkip (w':={ w with heap:=w.heap.setIfInBounds b (.map (g.push { key:=.int .i64 n,val:=v,born:=a }) (a+1)) }) ?_ (hk _ (h.setBlk q _ rfl));have p:(setObj b (.map (g.push { key:=.int .i64 n,val:=v,born:=a }) (a+1))).run P w=.ok () { w with heap:=w.heap.setIfInBounds b (.map (g.push { key:=.int .i64 n,val:=v,born:=a }) (a+1)) }:=by simp [setObj,Sem.run,r]
 simp [sOp,execOp,ev0,evE,Instr.mapUpdate,run_underlying u,B,m,o,p]
end
end
section
open Go Go.RowKit

abbrev bN:=List (Option T)
mutual
def okV:T->Prop
 | .mk k n _ ks=>(k=1->0<=n/\n<=25)/\s4 ks
def s4:List T->Prop
 | []=>True
 | t::ts=>okV t/\s4 ts
end
mutual
def okK:T->Prop
 | .mk k _ _ ks=>k≠0/\yM ks
def yM:List T->Prop
 | []=>True
 | t::ts=>okK t/\yM ts
end
theorem GH {t:T} (h:dA t=true):(t.kind=1->0<=t.n/\t.n<=25)/\t.kind≠0:=by
 unfold dA at h;refine ⟨fun hk=>?_,fun hk=>?_⟩
 ·rw [ai hk] at h;simp only [bJ,bQ] at h;exact ⟨h.1,h.2.1⟩
 ·rw [ah (by omega),ah (by omega),ah (by omega)] at h;cases h
mutual
theorem BA:∀ (t:T) (d:Int),cP t d=true->okV t/\okK t
 | .mk k n s ks,d,h=>by
  rw [cP] at h;split at h
  ·cases h
  ·simp only [bJ] at h;obtain ⟨a,g⟩:=h;obtain ⟨i,j⟩:=ye ks (d - 1) g;rw [okV,okK];obtain ⟨l,m⟩:=GH a;exact ⟨⟨l,i⟩,⟨m,j⟩⟩
theorem ye:∀ (a:List T) (d:Int),cK a d=true->s4 a/\yM a
 | [],d,h=>by simp [s4,yM]
 | t::a,d,h=>by
  rw [cK,bJ] at h;obtain ⟨g,i⟩:=BA t d h.1;obtain ⟨j,l⟩:=ye a d h.2;rw [s4,yM];exact ⟨⟨g,j⟩,⟨i,l⟩⟩
end
theorem AF {t:T} (h:cD t=true):okV t/\okK t:=by
 rw [cD,bJ] at h;exact BA t 30 h.1
def EO:List Value:=[.int .i64 0,.int .i64 0,.string ⟨#[]⟩,.slice none 0 0]
def KnownC (S:af) (c:Array Value) (st:bN):Prop:=104<=c.size/\∀ i (h:i<st.length),(st[i]=none->bd c (i * 4) 4=EO)/\(∀ t,st[i]=some t->RdT S (bd c (i * 4) 4) t)
theorem KnownC.set {S:af} {c:Array Value} {st:bN} (h:KnownC S c st) {n:Nat} (hn:n<26) {cs:List Value} {u:T} (g:RdT S cs u):KnownC S (bx c (n * 4) cs) (st.set n (some u)):=by
 have a:=g.length;have m:=h.1;have p:104<=(bx c (n * 4) cs).size:=by rw [ft _ _ _ (by omega)]; exact m
 refine ⟨p,fun i j=>?_⟩;rw [ic] at j;by_cases e:n=i
 ·subst e;rw [Bb];refine ⟨fun h=>(by cases h),fun t l=>?_⟩;simp only [a9] at l;subst l;have:=dQ (c:=c) (o:=n * 4) (vs:=cs) (by omega);rw [a] at this;rw [this];exact g
 ·rw [D9 e,fc (by omega) (by omega)];exact h.2 i j
section
attribute [local irreducible] Run CondV aw aI
abbrev kvn (kb kp:Nat):Value:=.slice (some ⟨kb,0,none⟩) 26 kp
abbrev kv0 (kb:Nat):Value:=kvn kb 26
end
end
section
open Go Go.RowKit

def pI:List Int->Int->Int->Nat->Int
 | [],_,cur,_=>cur
 | x::xs,n,cur,k=>pI xs n (if x=n then (k:Int) else cur) (k+1)
def nK (vs:List Int) (n:Int):Int:=(cE (σ:=Unit) (fun _ x=>(decide (n=x),())) () vs 0).1
mutual
def dd (vs:List Int):T->T
 | .mk k n s ks=>.mk k (if k=1 then pI vs n n 0 else n) s (eR vs ks)
def eR (vs:List Int):List T->List T
 | []=>[]
 | t::ts=>dd vs t::eR vs ts
end
mutual
def kL (vs:List Int):T->T
 | .mk k n s ks=>if k=1 then .mk 1 (nK vs n) ⟨#[]⟩ [] else .mk k n s (gc vs ks)
def gc (vs:List Int):List T->List T
 | []=>[]
 | t::ts=>kL vs t::gc vs ts
end
theorem yh:∀ (xs:List Int) (n a:Int) (k:Nat),n ∉ xs->pI xs n a k=a
 | [],n,a,k,_=>rfl
 | x::xs,n,a,k,h=>by
  rw [pI,ah (fun e=>h (by rw [e]; exact cQ ..)),yh xs n a (k+1) fun e=>h (c7 _ e)]
theorem qT:∀ (xs:List Int) (n a:Int) (k:Nat),n∈xs->xs.Nodup->pI xs n a k=(cE (σ:=Unit) (fun _ x=>(decide (n=x),())) () xs k).1
 | x::xs,n,a,k,h,hd=>by
  rw [List.nodup_cons] at hd;rw [pI,cE];by_cases e:x=n
  ·subst e;rw [ai rfl,yh _ _ _ _ hd.1];simp
  ·rw [ah e];have g:n∈xs:=by
    rcases fm.1 h with h|h
    ·exact absurd h.symm e
    ·exact h
   have:decide (n=x)=false:=bk fun q=>e q.symm;simp only [this,sB,if_false];exact qT xs n a (k+1) g hd.2
theorem GW (vs:List Int) (n:Int):-1<=nK vs n/\nK vs n<vs.length+1:=by
 have:∀ (xs:List Int) (k:Nat),-1<=(cE (σ:=Unit) (fun _ x=>(decide (n=x),())) () xs k).1/\(cE (σ:=Unit) (fun _ x=>(decide (n=x),())) () xs k).1<k+xs.length+1:=by
  intro xs;induction xs with
  | nil=>intro k; simp [cE]; omega
  | cons x xs a=>
   intro k;rw [cE];have:=a (k+1);split
   ·simp; omega
   ·simp only [bg]; omega
 have h:=this vs 0;rw [nK];omega
mutual
def inT (vs:List Int):T->Prop
 | .mk k n _ ks=>(k=1->n∈vs)/\inL vs ks
def inL (vs:List Int):List T->Prop
 | []=>True
 | t::ts=>inT vs t/\inL vs ts
end
theorem Cn (l:List Int) (n:Int):G4 l n=true↔n∈l:=by
 simp [G4]
theorem zN (l:List Int) (n:Int):n∈kY l n/\∀ m∈l,m∈kY l n:=by
 unfold kY;split
 ·rename_i h; exact ⟨(Cn l n).1 h,fun m h=>h⟩
 ·exact ⟨by simp,fun m h=>by simp [h]⟩
theorem C3 {l:List Int} (n:Int) (h:l.Nodup):(kY l n).Nodup:=by
 unfold kY;split
 ·exact h
 ·rename_i hn
  rw [tN];refine ⟨h,by simp,fun a i b g e=>hn ((Cn l n).2 ?_)⟩;simp at g;rw [<- g,<- e];exact i
mutual
theorem Fs:∀ (t:T) (l:List Int),∀ m∈l,m∈gd t l
 | .mk k n s ks,l,m,h=>by
  rw [gd];refine me ks _ m ?_;split
  ·exact (zN l n).2 m h
  ·exact h
theorem me:∀ (a:List T) (l:List Int),∀ m∈l,m∈dp a l
 | [],l,m,h=>h
 | t::a,l,m,h=>by
  rw [dp];exact me a _ m (Fs t l m h)
end
mutual
theorem Ch:∀ (t:T) (l:List Int),l.Nodup->(gd t l).Nodup
 | .mk k n s ks,l,h=>by
  rw [gd];refine iO ks _ ?_;split
  ·exact C3 n h
  ·exact h
theorem iO:∀ (a:List T) (l:List Int),l.Nodup->(dp a l).Nodup
 | [],l,h=>h
 | t::a,l,h=>by
  rw [dp];exact iO a _ (Ch t l h)
end
mutual
theorem B0 {vs ws:List Int} (h:∀ m∈vs,m∈ws):∀ t:T,inT vs t->inT ws t
 | .mk k n s ks,hi=>by
  rw [inT] at hi ⊢;exact ⟨fun e=>h _ (hi.1 e),AV h ks hi.2⟩
theorem AV {vs ws:List Int} (h:∀ m∈vs,m∈ws):∀ a:List T,inL vs a->inL ws a
 | [],_=>by simp [inL]
 | t::a,hi=>by
  rw [inL] at hi ⊢;exact ⟨B0 h t hi.1,AV h a hi.2⟩
end
mutual
theorem Gt:∀ (t:T) (l:List Int),inT (gd t l) t
 | .mk k n s ks,l=>by
  rw [gd,inT];refine ⟨fun e=>me ks _ n ?_,pA ks _⟩;rw [ai e];exact (zN l n).1
theorem pA:∀ (a:List T) (l:List Int),inL (dp a l) a
 | [],l=>by simp [inL]
 | t::a,l=>by
  rw [dp,inL];exact ⟨B0 (me a _) t (Gt t l),pA a _⟩
end
theorem zP {t:T} (h:dA t=true) (hk:t.kind=1):t.name=emptyB/\t.kids.length=0:=by
 unfold dA at h;rw [ai hk] at h;simp only [bJ,bQ] at h;exact ⟨h.2.2.1,h.2.2.2⟩
mutual
theorem DY (vs:List Int) (i:vs.Nodup):∀ (t:T) (d:Int),cP t d=true->inT vs t->dd vs t=kL vs t
 | .mk k n s ks,d,h,hi=>by
  rw [cP] at h;rw [inT] at hi;split at h
  ·cases h
  ·rw [bJ] at h;have m:=zd vs i ks (d - 1) h.2 hi.2;rw [dd,kL];by_cases e:k=1
   ·obtain ⟨j,l⟩:=zP h.1 e;have a:s=⟨#[]⟩:=j;have g:ks=[]:=kP l;subst a g e;rw [ai rfl,ai rfl,qT vs n n 0 (hi.1 rfl) i];rfl
   ·rw [ah e,ah e,m]
theorem zd (vs:List Int) (g:vs.Nodup):∀ (a:List T) (d:Int),cK a d=true->inL vs a->eR vs a=gc vs a
 | [],d,_,_=>rfl
 | t::a,d,h,hi=>by
  rw [cK,bJ] at h;rw [inL] at hi;rw [eR,gc,DY vs g t d h.1 hi.1,zd vs g a d h.2 hi.2]
end
theorem qJ (vs:List Int):∀ a:List T,(eR vs a).length=a.length
 | []=>rfl
 | t::a=>by rw [eR]; simp [qJ vs a]
theorem qf (vs:List Int):∀ a:List T,(gc vs a).length=a.length
 | []=>rfl
 | t::a=>by rw [gc]; simp [qf vs a]
theorem uH (vs:List Int) (a:List T) (j:Nat) (h:j<a.length):gc vs (a.take (j+1))=gc vs (a.take j)++[kL vs a[j]]:=by
 have:∀ (xs ys:List T),gc vs (xs++ys)=gc vs xs++gc vs ys:=by
  intro xs ys;induction xs with
  | nil=>rfl
  | cons x xs g=>simp [gc,g]
 rw [mK h,this]; rfl
def wD (vs:List Int) (c:C):C:=⟨dd vs c.head,eR vs c.body⟩
def bu (c:C):List Int:=ni (c.head::c.body) []
theorem CT {c:C} (h:a4 c=true):dp (c.head::c.body) []=bu c/\kL (bu c) c.head=dd (bu c) c.head/\gc (bu c) c.body=eR (bu c) c.body:=by
 have g:dp (c.head::c.body) []=bu c:=by
  rw [bu,dp,ni,<- (rX h []).1,(rX h (vx c.head [])).2]
 have m:(bu c).Nodup:=by rw [<- g]; exact iO _ _ List.nodup_nil
 have i:inL (bu c) (c.head::c.body):=by rw [<- g]; exact pA _ _
 rw [inL] at i;rw [a4] at h;simp only [bJ,gR] at h;obtain ⟨_,q,l,_⟩:=h;rw [cD,bJ] at l;have r:∀ a:List T,(∀ t∈a,dF t=true)->cK a 30=true:=by
  intro a;induction a with
  | nil=>intro _; rfl
  | cons t a B=>
   intro j;rw [cK,bJ];have o:=j t (cQ ..);rw [dF,bJ,cD,bJ] at o;exact ⟨o.1.1,B fun u p=>j u (c7 _ p)⟩
 exact ⟨g,(DY _ m _ _ l.1 i.1).symm,(zd _ m _ _ (r _ q) i.2).symm⟩
end
section
open Go Go.RowKit
section
attribute [local irreducible] Run CondV aw aI
theorem zt {c0:C} {S:af} {cs:List Value} (h:RdC S cs c0) (hw:wC c0<=1048576):Tri Tryz.prog vG [.agg cs.toArray] [] S (IA S c0):=by
 intro w a;obtain ⟨hd,ks,rfl,h1,h2⟩:=h;have b4:=h1;obtain ⟨kv,rfl,g1,g2,g3,g4⟩:=RdT.iff.1 h1;unfold wC at hw;refine iP.2 ?_;dsimp only[iP,aG];refine bB a fun b1 w' a=>?_;refine aF a bZ fun b2 w' a=>?_;refine ay cn ?_;refine ew a 0 [.int .i64 c0.head.kind,.int .i64 c0.head.n,.string c0.head.name,kv] ad rfl rfl FA ?_;refine Run.call0 eQ fa a (fS _ S _ b4 (by omega)) fun v' I' S w'=>?_;rintro ⟨rfl,b6,N,rfl,rfl,a2⟩ _ a;obtain ⟨t,rfl,_⟩:=TrT.iff.1 a2;refine gF ?_;refine aF a bZ fun b3 w' a=>?_;have a:=a.perm (M:=.blk b1 _::.blk b2 _::.blk b3 _::aS N) (((dy (l₁:=[_])).cons _).cons _);refine al a 2 rfl aC rfl rfl ?_ fun w' a=>?_
 ·intro u hu;have a0:u∈([.int .i64 c0.head.kind,.int .i64 c0.head.n,.string c0.head.name,t,.slice none 0 0]:List Value):=hu;simp at a0;have o1:t.oneCell'=true:=a2.one t (by simp);rcases a0 with rfl|rfl|rfl|rfl|rfl <;> first|rfl|exact o1
 have a:=a.rowNil ac 4;have a:=a.perm (M:=.blk b1 (.cells #[.int .i64 c0.head.kind,.int .i64 c0.head.n,.string c0.head.name,kv,ks] ae)::.blk b2 (.cells #[.int .i64 0,.int .i64 0,.string ⟨#[]⟩,.slice none 0 0,.slice none 0 0] ae)::.blk b3 (.cells #[.int .i64 c0.head.kind,.int .i64 c0.head.n,.string c0.head.name,t,.slice none 0 0] ae)::ax (.slice none 0 0) ac 4 []::aS N) ((((dy (l₁:=[_])).cons _).cons _).cons _);refine ⟨fun i w'=>∃ (j:Nat) (l:Value) (Ls:List aU) (css:List (List Value)),j<=c0.body.length/\i=.int .i64 j/\Grown 4 TrT Ls css (c0.body.take j)/\
   Inv w [] (.blk b1 (.cells #[.int .i64 c0.head.kind,.int .i64 c0.head.n,.string c0.head.name,kv,ks] ae)::.blk b2 (.cells #[.int .i64 0,.int .i64 0,.string ⟨#[]⟩,.slice none 0 0,.slice none 0 0] ae)::.blk b3 (.cells #[.int .i64 c0.head.kind,.int .i64 c0.head.n,.string c0.head.name,t,l] ae)::ax l ac 4 css::aS (N::Ls).flatten) S w',
  fun i _=>c0.body.length - (intOf i).toNat,⟨0,_,[],[],aQ _,rfl,Grown.nil _ _,by simp only [eP,kH,cS]; exact a⟩,?_⟩
 intro t4 _ _ _ _ _ _ _ _ _ _ _ _ _ _ _ _ _ _ w';rintro ⟨j,l,Ls,css,hj,rfl,hg,a⟩;refine ag a 0 rfl aT ar rfl ?_;refine aL h2 ao ?_;refine cq ?_;refine aR (fun a9=>?_) (fun a9=>?_)
 ·have a1:j<c0.body.length:=by omega
  have b7:(c0.body.take j).length=j:=by simp; omega
  have b9:=hg.hc;have hm:=cr a1;have c1:=ji hm;obtain ⟨b,o,cap,c,E,fz,rfl,hS,hR⟩:=h2.at_ a1;refine ⟨fun D sg V rV uC vg qB mc sG D7 te Ds w_=>Fx D 0 [Ds=.pointer (some ⟨b3,4,none⟩),te=l,D7=.pointer (some ⟨b1,4,none⟩),sG=.slice (some ⟨b,o,none⟩) (c0.body).length cap,mc=.int .i64 j,qB=.pointer (some ⟨b,o+j * 4,none⟩),vg=.agg (bd c (o+j * 4) 4).toArray,True,True,True,sg=.pointer (some ⟨b3,4,none⟩),True]/\∃ M g r,(D 7=true->uC=.agg g.toArray/\TrT M g (c0.body)[j])/\(D 8=true->rV=.slice (some ⟨r,0,none⟩) 1 1)/\(D 8=true->D 7=true)/\(D 9=true->D 8=true)/\(D 11=true->D 9=true)/\(D 11=true->D 1=true)/\Inv w [] (aH (.blk b1 (.cells #[.int .i64 c0.head.kind,.int .i64 c0.head.n,.string c0.head.name,kv,.slice (some ⟨b,o,none⟩) c0.body.length cap] ae)) (.blk b2 (.cells #[.int .i64 0,.int .i64 0,.string ⟨#[]⟩,.slice none 0 0,.slice none 0 0] ae)) (.blk b3 (.cells #[.int .i64 c0.head.kind,.int .i64 c0.head.n,.string c0.head.name,t,l] ae)) (.blk b3 (.cells #[.int .i64 c0.head.kind,.int .i64 c0.head.n,.string c0.head.name,t,V] ae)) (ax l ac 4 css) (ax V ac 4 (css++[g])) (aS (N::Ls).flatten) M (.blk r (.cells g.toArray ac)) (D 7) (D 8) (D 9) (D 11)) S w_,⟨Fx.nil _ _,⟨[],[],0,aP,aP,aP,aP,aP,aP,by simpa [aH,aS] using a.draw⟩⟩,⟨?_,?_,?_,?_,?_,?_,?_,?_,?_,?_,?_,?_,trivial⟩,?_⟩;all_goals (intro D Z; intros; rename_i sg V rV uC vg qB mc sG D7 te Ds w_ a4; have q:=a4.1; obtain ⟨⟨c9,cX,cZ,c4,cY,c8,cB,df,dK,eF,cW,dR,_⟩,⟨M,g,r,G,Y,O,J,p,U,a⟩⟩:=a4)
  ·refine ay aT ?_;exact ⟨q.set 0 rfl,⟨M,g,r,G,Y,O,J,p,U,a⟩⟩
  ·obtain rfl:=c9 ‹_›;have B:D 11=false:=bS.2 fun h=>by rw [U h] at Z; cases Z
   refine aJ (b:=b3) a 2 (c:=(#[.int .i64 c0.head.kind,.int .i64 c0.head.n,.string c0.head.name,t,l])) ar (by rw [B]; rfl) rfl ?_;have U:=fun (_:aB D 1 11=true)=>(rfl:aB D 1 1=true)
   exact ⟨q.set 1 rfl,⟨M,g,r,G,Y,O,J,p,U,a⟩⟩
  ·refine ay aT ?_;exact ⟨q.set 2 rfl,⟨M,g,r,G,Y,O,J,p,U,a⟩⟩
  ·obtain rfl:=cZ ‹_›;refine aJ a 0 ar rfl rfl ?_;exact ⟨q.set 3 rfl,⟨M,g,r,G,Y,O,J,p,U,a⟩⟩
  ·exact ⟨q.set 4 rfl,⟨M,g,r,G,Y,O,J,p,U,a⟩⟩
  ·obtain rfl:=c4 ‹_›;obtain rfl:=cY ‹_›;refine aN ao a1 ?_;exact ⟨q.set 5 rfl,⟨M,g,r,G,Y,O,J,p,U,a⟩⟩
  ·obtain rfl:=c8 ‹_›;refine dC ad hR.length (fun j v hj=>by rw [a.cellS hS]; exact aX rfl j v hj) ?_;exact ⟨q.set 6 rfl,⟨M,g,r,G,Y,O,J,p,U,a⟩⟩
  ·obtain rfl:=cB ‹_›;have f8:D 8=false:=bS.2 fun h=>by rw [O h] at Z; cases Z
   have f9:D 9=false:=bS.2 fun h=>by rw [J h] at f8; cases f8
   have B:D 11=false:=bS.2 fun h=>by rw [p h] at f9; cases f9
   rw [Z,f8,f9,B] at a;refine Run.call0 eQ fa a (fS _ S _ hR (by omega)) fun v' I' S w_=>?_;rintro ⟨rfl,g,M,rfl,rfl,hT⟩ _ a;have G:aB D 7 7=true->Value.agg g.toArray=Value.agg g.toArray/\TrT M g (c0.body)[j]:=fun _=>⟨rfl,hT⟩
   have O:=fun (_:aB D 7 8=true)=>(rfl:aB D 7 7=true)
   have a:Inv w [] (aH (.blk b1 (.cells #[.int .i64 c0.head.kind,.int .i64 c0.head.n,.string c0.head.name,kv,.slice (some ⟨b,o,none⟩) c0.body.length cap] ae)) (.blk b2 (.cells #[.int .i64 0,.int .i64 0,.string ⟨#[]⟩,.slice none 0 0,.slice none 0 0] ae)) (.blk b3 (.cells #[.int .i64 c0.head.kind,.int .i64 c0.head.n,.string c0.head.name,t,l] ae)) (.blk b3 (.cells #[.int .i64 c0.head.kind,.int .i64 c0.head.n,.string c0.head.name,t,V] ae)) (ax l ac 4 css) (ax V ac 4 (css++[g])) (aS (N::Ls).flatten) M (.blk r (.cells g.toArray ac)) true (D 8) (D 9) (D 11)) S w_:=by
    rw [f8,f9,B];simpa [aH] using a
   exact ⟨q.set 7 (by first|assumption|trivial),⟨M,g,r,G,Y,O,J,p,U,a⟩⟩
  ·have zJ:=df ‹_›;have f9:D 9=false:=bS.2 fun h=>by rw [J h] at Z; cases Z
   have B:D 11=false:=bS.2 fun h=>by rw [p h] at f9; cases f9
   obtain ⟨q7,hT⟩:=G ‹D 7=true›;subst q7;rw [‹D 7=true›,Z,f9,B] at a;refine dI a bw (by simp [Value.cells,hT.length]) (by omega) (by omega) fun r w_ a=>?_;have G:aB D 8 7=true->Value.agg g.toArray=Value.agg g.toArray/\TrT M g (c0.body)[j]:=fun _=>⟨rfl,hT⟩
   have Y:=fun (_:aB D 8 8=true)=>(rfl:Value.slice (some ⟨r,0,none⟩) 1 1=_)
   have O:=fun (_:aB D 8 8=true)=>‹D 7=true›;have J:=fun (_:aB D 8 9=true)=>(rfl:aB D 8 8=true)
   have a:Inv w [] (aH (.blk b1 (.cells #[.int .i64 c0.head.kind,.int .i64 c0.head.n,.string c0.head.name,kv,.slice (some ⟨b,o,none⟩) c0.body.length cap] ae)) (.blk b2 (.cells #[.int .i64 0,.int .i64 0,.string ⟨#[]⟩,.slice none 0 0,.slice none 0 0] ae)) (.blk b3 (.cells #[.int .i64 c0.head.kind,.int .i64 c0.head.n,.string c0.head.name,t,l] ae)) (.blk b3 (.cells #[.int .i64 c0.head.kind,.int .i64 c0.head.n,.string c0.head.name,t,V] ae)) (ax l ac 4 css) (ax V ac 4 (css++[g])) (aS (N::Ls).flatten) M (.blk r (.cells g.toArray ac)) (D 7) true (D 9) (D 11)) S w_:=by
    rw [‹D 7=true›,f9,B];simpa [aH,Value.cells] using a
   exact ⟨q.set 8 (by first|assumption|trivial),⟨M,g,r,G,Y,O,J,p,U,a⟩⟩
  ·obtain rfl:=cX ‹_›;have wZ:=dK ‹_›;have B:D 11=false:=bS.2 fun h=>by rw [p h] at Z; cases Z
   have q8:=Y ‹D 8=true›;subst q8;obtain ⟨_,hT⟩:=G ‹D 7=true›;rw [‹D 7=true›,‹D 8=true›,Z,B] at a;have a6:((aH (.blk b1 (.cells #[.int .i64 c0.head.kind,.int .i64 c0.head.n,.string c0.head.name,kv,.slice (some ⟨b,o,none⟩) c0.body.length cap] ae)) (.blk b2 (.cells #[.int .i64 0,.int .i64 0,.string ⟨#[]⟩,.slice none 0 0,.slice none 0 0] ae)) (.blk b3 (.cells #[.int .i64 c0.head.kind,.int .i64 c0.head.n,.string c0.head.name,t,te] ae)) (.blk b3 (.cells #[.int .i64 c0.head.kind,.int .i64 c0.head.n,.string c0.head.name,t,V] ae)) (ax te ac 4 css) (ax V ac 4 (css++[g])) (aS (N::Ls).flatten) M (.blk r (.cells g.toArray ac)) true true false false))[4+(aS (N::Ls).flatten).length+(aS M).length]?=some (.blk r (.cells g.toArray ac)):=by
    have e4:4+(aS (N::Ls).flatten).length+(aS M).length=((aS (N::Ls).flatten).length+(aS M).length)+1+1+1+1:=by omega
    rw [e4];simp only [aH,iq];rw [fP (by omega),pE,fP (a7 _),dY]; rfl
   refine dH a 3 g bw (by omega) rfl (by rw [hT.length]) (m:=1) (o:=0) ?_ hT.one (by omega) (by omega) fun v' w_ a=>?_
   ·intro i u hi;rw [a.cellL a6,ct];simpa using hi
   rw [dZ] at a;have J:=fun (_:aB D 9 9=true)=>‹D 8=true›;have p:=fun (_:aB D 9 11=true)=>(rfl:aB D 9 9=true)
   have a:Inv w [] (aH (.blk b1 (.cells #[.int .i64 c0.head.kind,.int .i64 c0.head.n,.string c0.head.name,kv,.slice (some ⟨b,o,none⟩) c0.body.length cap] ae)) (.blk b2 (.cells #[.int .i64 0,.int .i64 0,.string ⟨#[]⟩,.slice none 0 0,.slice none 0 0] ae)) (.blk b3 (.cells #[.int .i64 c0.head.kind,.int .i64 c0.head.n,.string c0.head.name,t,te] ae)) (.blk b3 (.cells #[.int .i64 c0.head.kind,.int .i64 c0.head.n,.string c0.head.name,t,v'] ae)) (ax te ac 4 css) (ax v' ac 4 (css++[g])) (aS (N::Ls).flatten) M (.blk r (.cells g.toArray ac)) (D 7) (D 8) true (D 11)) S w_:=by
    rw [‹D 7=true›,‹D 8=true›,B];exact a
   exact ⟨q.set 9 (by first|assumption|trivial),⟨M,g,r,G,Y,O,J,p,U,a⟩⟩
  ·refine ay aT ?_;exact ⟨q.set 10 rfl,⟨M,g,r,G,Y,O,J,p,U,a⟩⟩
  ·obtain rfl:=cW ‹_›;have xN:=eF ‹_›;rw [‹D 7=true›,‹D 8=true›,‹D 9=true›,Z] at a;obtain ⟨va,vn,vc,a3⟩:=Inv.rowSlice a 3 rfl;refine di a 2 (n:=1) (by rw [a3]; rfl) (by decide +kernel) rfl (by simp) (by rw [a3]; simp [Value.cells,Value.oneCell']) fun w_ a=>?_;have a8:Value.cells V=#[V]:=by rw [a3]; rfl
   rw [a8] at a;have U:=fun (_:aB D 11 11=true)=>‹D 1=true›;have p:=fun (_:aB D 11 11=true)=>‹D 9=true›;have a:Inv w [] (aH (.blk b1 (.cells #[.int .i64 c0.head.kind,.int .i64 c0.head.n,.string c0.head.name,kv,.slice (some ⟨b,o,none⟩) c0.body.length cap] ae)) (.blk b2 (.cells #[.int .i64 0,.int .i64 0,.string ⟨#[]⟩,.slice none 0 0,.slice none 0 0] ae)) (.blk b3 (.cells #[.int .i64 c0.head.kind,.int .i64 c0.head.n,.string c0.head.name,t,l] ae)) (.blk b3 (.cells #[.int .i64 c0.head.kind,.int .i64 c0.head.n,.string c0.head.name,t,V] ae)) (ax l ac 4 css) (ax V ac 4 (css++[g])) (aS (N::Ls).flatten) M (.blk r (.cells g.toArray ac)) (D 7) (D 8) (D 9) true) S w_:=by
    rw [‹D 7=true›,‹D 8=true›,‹D 9=true›];exact a
   exact ⟨q.set 11 trivial,⟨M,g,r,G,Y,O,J,p,U,a⟩⟩
  obtain ⟨rfl,rfl,rfl,rfl,rfl,rfl,rfl,zJ,wZ,xN,rfl,_,_⟩:=q.all;have sW:D 7=true:=by assumption
  have wl:D 8=true:=by assumption
  have FO:D 9=true:=by assumption
  have vo:D 11=true:=by assumption
  clear q c9 cX cZ c4 cY c8 cB df dK eF cW dR;obtain ⟨_,hT⟩:=G sW;rw [sW,wl,FO,vo] at a;refine bz (by omega) ?_;refine ⟨⟨j+1,V,Ls++[M],css++[g],a1,rfl,?_,?_⟩,by simp [intOf]; omega⟩
  ·rw [mK a1];exact hg.snoc hT hT.length
  ·rw [<- gC,oc,cG];simp only [eP,kH,cS];refine a.sub ?_;simp only [aH,eP];rw [<- d4];exact (((ii _ _).cons_cons _).cons_cons _).cons_cons _ |>.cons_cons _
 ·have:j=c0.body.length:=by omega
  subst this;rw [mS] at hg;obtain ⟨va,vn,vc,b0⟩:=a.rowSlice 3 rfl;have b5:l.oneCell'=true:=by rw [b0]; rfl
  have o1:t.oneCell'=true:=a2.one t (by simp);refine au a 2 aC rfl rfl ?_;refine al a 1 rfl aC rfl rfl ?_ fun w' a=>?_
  ·intro u hu;have a0:u∈([.int .i64 c0.head.kind,.int .i64 c0.head.n,.string c0.head.name,t,l]:List Value):=hu;simp at a0;rcases a0 with rfl|rfl|rfl|rfl|rfl <;> first|rfl|exact o1|exact b5
  refine a5 a 1 aC rfl rfl ?_;have a:Inv w [] (ax l ac 4 css::aS (N::Ls).flatten) S w':=a.sub (fF [_,_,_] _);rw [eP,cG] at a;have a:=a.perm (M:=aS N++(ax l ac 4 css::aS Ls.flatten)) (zal87);obtain ⟨L,hT,a⟩:=Inv.rowTree a hg;exact ⟨_,_,_,rfl,a,Ext.refl _ _ _,rfl,_,N++L,rfl,by rw [cG],_,l,N,L,rfl,rfl,a2,hT⟩
end
end
section
open Go Go.RowKit
section
variable {P:Program} {w w0:World} {X:List Nat} {L:List Item} {S:af} {K:Value->World->Prop}
theorem Fl (h:Inv w0 X L S w) {T ty e:TypeId} {k m n q:Nat} {z v:Value} {cs:List Bool} {xs:List Value} {a:Option Addr} (i:Nat)
  (r:fY P T=some (e,k,m,z)) (t:L[i]?=some (.row v e k n xs)) (hk:K v w) :
  Run P (bn .append #[T,T] ty cs [v,.slice a 0 q]) w K:=by
 obtain ⟨p,u,l,J,M,N,B⟩:=h8 r;have j:=h.its _ (fw t);simp only [Item.holds] at j;refine Run.of (v:=v) (w':=w) ?_ hk;rcases j.2 with ⟨rfl,rfl⟩|⟨g,cap,C,rfl,_,O,o,D,G,U⟩
 ·cases a <;> simp [bn,builtin,Builtin.append_,run_underlying p,sizeOf,typeInfo,l,Builtin.lenOf,Builtin.firstCells,loadCells,loadCellsFrom]
 ·cases a <;> simp [bn,builtin,Builtin.append_,run_underlying p,sizeOf,typeInfo,l,storeCells,o,Builtin.lenOf,Builtin.firstCells,loadCells,loadCellsFrom]
end
end
section
open Go Go.RowKit

structure Rows {α:Type} (k:Nat) (R:List Value->α->Prop) (css:List (List Value)) (ys:List α):Prop where
 hc:css.length=ys.length
 hk:∀ cs∈css,cs.length=k
 hR:∀ i (h:i<ys.length) (h1:i<css.length),R css[i] ys[i]
theorem Rows.nil {α:Type} (k:Nat) (R:List Value->α->Prop):Rows k R [] ([]:List α):=⟨rfl,by simp,fun i h=>by simp at h⟩
theorem Rows.snoc {α:Type} {k:Nat} {R:List Value->α->Prop} {css:List (List Value)} {ys:List α} (h:Rows k R css ys) {cs:List Value} {y:α} (hR:R cs y) (g:cs.length=k):Rows k R (css++[cs]) (ys++[y]):=by
 refine ⟨by simp [h.hc],fun c hc=>?_,fun i j m=>?_⟩
 ·rcases dh.1 hc with hc|hc
  ·exact h.hk c hc
  ·simp at hc; subst hc; exact g
 ·have l:=h.hc;by_cases a:i<ys.length
  ·rw [lz (by omega),lz a];exact h.hR i a (by omega)
  ·have:i=ys.length:=by simp at j; omega
   subst this;rw [m1 (by omega),m1 (by omega)];simp only [l,dY,pb];exact hR
theorem Rows.append {α:Type} {k:Nat} {R:List Value->α->Prop} {css a:List (List Value)} {ys g:List α} (h:Rows k R css ys) (j:Rows k R a g):Rows k R (css++a) (ys++g):=by
 have e:=h.hc;have p:=j.hc;refine ⟨by simp [e,p],fun c hc=>?_,fun i o q=>?_⟩
 ·rcases dh.1 hc with hc|hc
  ·exact h.hk c hc
  ·exact j.hk c hc
 ·by_cases m:i<ys.length
  ·rw [lz (by omega),lz m];exact h.hR i m (by omega)
  ·have l:i - css.length<g.length:=by simp at o; omega
   rw [m1 (by omega),m1 (by omega)];have:=j.hR (i - css.length) l (by omega);simpa only [e] using this
theorem RowRd.rows {α:Type} {S:af} {v:Value} {e:TypeId} {k:Nat} {R:List Value->α->Prop} {css:List (List Value)} {ys:List α} (a:Rows k R css ys) (h:RowRd S v e k css.length css.flatten):RdSl S k R v ys:=by
 obtain ⟨B,h⟩:=h;have j:=a.hc;rcases h with ⟨rfl,C⟩|⟨g,cap,l,rfl,q,r,m,t,u⟩
 ·have:ys=[]:=kP (by omega);subst this;exact ⟨none,0,rfl,a7 _,aQ _,.inl rfl⟩
 ·refine ⟨_,cap,by rw [j],by omega,m,.inr ⟨g,0,l,e,(0,0),rfl,q,fun i o=>?_⟩⟩;have:=eK k css i a.hk (by omega);have p:i * k+k<=css.length * k:=by rw [<- ip]; exact eV k (by omega)
  rw [<- u,EC,Es,tE (by omega)] at this;rw [bd,ct,this];exact a.hR i o (by omega)
theorem gD {k:Nat}:∀ {css:List (List Value)},(∀ cs∈css,cs.length=k)->css.flatten.length=css.length * k
 | [],_=>by simp
 | c::css,h=>by
  have:=gD (css:=css) fun cs hc=>h cs (c7 _ hc);rw [eP,bv,h c (cQ ..),this,bg,ip,Nat.add_comm]
section
variable {P:Program} {w w0:World} {X:List Nat} {L:List Item} {S:af} {K:Value->World->Prop}
attribute [local irreducible] Run CondV aw aI
end
end
end Go.Proofs.YtjbcdmheajljpaaGreat
