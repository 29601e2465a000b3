/- The program's TermValid and what it calls. -/
import Derived.Test.YtellfcpffcipcaaGreatDoorZCkA
import Derived.Test.YtellfcpffcipcaaGreatDoorZCk0
namespace Go.Proofs.YtellfcpffcipcaaGreatDoor
attribute [local irreducible] Run CondV aF aT
section
open Go Go.RowKit

theorem gK (n low a:Int) (S:ae):ll U0 [ax n,ax low,ax a] S (.bool (decide (low<=n) && decide (n<=a))):=by
 intro w f;apply Ff.2;dsimp only[Ff,dR];apply gJ;refine lP (fun h=>?_) (fun h=>done f (by rw [h];rfl));apply gJ;exact jv h (done f (by rw [h];rfl))
theorem um (s:ByteArray) (o:s.size<=maxLen) (S:ae):ll Lw [.string s] S (.bool (o5 s)):=by
 intro w j;simp only [maxLen] at o;apply vL.2;dsimp only[vL,aR];apply jy bg;refine ⟨fun i w'=>∃ k:Nat,k<=s.size/\i=ax k/\(s.data.toList.drop k).all we=wq s/\Inv w [] [] S w',fun i _=>s.size - (intOf i).toNat,⟨0,bf _,rfl,rfl,j⟩,?_⟩;intro q _ _ _ _ _ _ _ _ _ _ _ _ _ _ _ w';rintro ⟨k,hk,rfl,f,j⟩;refine bM (aJ (fun l=>?_) (fun l=>?_))
 ·have g:k<s.size:=by omega
  have a:=HK we s.data.toList k (by rw [sy];exact g);rw [RT s k g] at a;refine ⟨fun t w'=>t=.bool (!we s[k])/\Inv w [] [] S w',?_,?_⟩
  ·refine pe bg g (bM ?_);refine Aq (fun h=>⟨?_,j⟩) (fun h=>?_)
   ·have h:=of_decide_eq_true h;rw [we,aS (show ¬ 97<=s[k].toNat by omega)];rfl
   ·refine pe bg g (ew ?_);refine sm h ⟨?_,j⟩;have h:=of_decide_eq_false h;rw [we,aL (show 97<=s[k].toNat by omega),dz];by_cases m:s[k].toNat<=122
    ·rw [aL m,aS (by omega)];rfl
    ·rw [aS m,aL (by omega)];rfl
  intro t _ _ _ _ _ _ _ _ _ w';rintro ⟨rfl,j⟩;refine aE (fun h=>done j ?_) (fun h=>?_)
  ·simp at h;rw [o5,<- f,a,h];rfl
  ·simp at h;refine bA (by omega) ?_;refine ⟨⟨k+1,g,rfl,by rw [<- f,a,h];rfl,j⟩,by simp [intOf];omega⟩
 ·have:k=s.size:=by omega
  subst this;have hl:wq s=true:=by rw [<- f,<- sy,dY];rfl
  apply jy bg;refine Run.callPure iA iv j (gK _ _ _ S) fun w' j=>done j ?_;rw [o5,hl,dz]
  congr 1
  rw [qt];simp;omega
theorem KY (S:ae):kt Ri [] [] S (LP S):=by
 intro w f;apply CL.2;dsimp only[CL,ub];refine vu (v:=fun b=>.slice (some ⟨b,0,none⟩) 15 15) (o:=.cells Dm jf) f (by kernel_rfl) fun b w' f=>?_;have a:w.heap.size<=b:=by
  rcases f.new b (by simp [bS,Item.foot]) with h|h
  ·simp [bS] at h
  ·exact h
 obtain ⟨i,g⟩:=Inv.publishLast (L:=[]) f;exact ⟨_,_,_,rfl,i,RD a g,rfl,g,SS (by simp [sq];rfl)⟩
theorem zV (s:ByteArray) {xs:List ByteArray} {S:ae} {v:Value} (h:RdSl S 1 rp v xs) :
  ll Et [v,.string s] S (ax (df (σ:=Unit) (fun _ x=>(decide (x=s),())) () xs 0).1):=by
 intro w g;have j:=h.le;simp only [maxLen] at j;refine qB.2 ?_;dsimp only[qB,bl];refine aI h cZ ?_;refine ⟨fun i w'=>∃ k:Nat,k<=xs.length/\i=ax k/\df (σ:=Unit) (fun _ x=>(decide (x=s),())) () (xs.drop k) k=df (σ:=Unit) (fun _ x=>(decide (x=s),())) () xs 0/\Inv w [] [] S w',
  fun i _=>xs.length - (intOf i).toNat,⟨0,bf _,rfl,rfl,g⟩,?_⟩
 intro q _ _ _ _ _ _ _ _ _ _ _ _ w';rintro ⟨k,hk,rfl,a,g⟩;refine bM (aJ (fun l=>?_) (fun l=>?_))
 ·have f:k<xs.length:=by omega
  rw [dB f,df] at a;refine gj g h cZ aP f (fun cs m=>m) (bB ?_);refine aJ (fun o=>done g ?_) (fun o=>?_)
  ·rw [<- a,ai (by simpa using o.symm)]
  ·refine bA (by omega) ?_;rw [af (by simpa using fun e=>o e.symm)] at a;exact ⟨⟨k+1,f,rfl,a,g⟩,by simp [intOf];omega⟩
 ·have:k=xs.length:=by omega
  subst this;rw [dY,df] at a;exact done g (by rw [<- a])
theorem gi (s:ByteArray) {xs:List ByteArray} {S:ae} {v:Value} (h:RdSl S 1 rp v xs) :
  ll xy [v,.string s] S (.bool (xs.any fun x=>decide (x=s))):=by
 intro w a;apply mZ.2;dsimp only[mZ,bl];refine Run.callPure Al Co a (zV s h) fun w' a=>?_;refine iS (done a ?_);rw [(l5 _ xs () 0).1,mu]
theorem DO (s:ByteArray) (g:s.size<=maxLen) (S:ae):ll K0 [.string s] S (.bool (nR s)):=by
 intro w a;apply uM.2;dsimp only[uM,aR];refine Run.callPure vj wB a (um s g S) fun w' a=>?_;refine Aq (fun h=>done a ?_) (fun h=>?_)
 ·rw [nR,h];rfl
 ·refine Run.call0 PC Nx a (KY S) fun j I' S' w'=>?_;rintro ⟨rfl,_,i⟩ f a;refine Run.callPure gC gA a (gi s i) fun w' a=>?_;refine sm h (iN a f ?_);rw [nR,h];rfl

abbrev il (b:Nat) (c:Int):Item:=ay b #[ax c] cR
abbrev sf (bc:Nat) (S:ae) (r:Bool × Int):Value->List Item->ae->Prop:=fun v I' S'=>v=.bool r.1/\I'=[il bc r.2]/\S'=S
theorem Qz:∀ (t:T) (a c:Int),c<=120->(iw t a c).1=true->c<(iw t a c).2/\(iw t a c).2<=120:=by
 intro t a c hc h;have:=HX t a c;rw [this.2 h];have f:=this.1;rw [h] at f;have g:=f.symm;simp at g;have:=m7 t;omega
theorem My (a:Int):∀ (f:List T) (c:Int),pG (fun c t=>(!(iw t a c).1,(iw t a c).2)) c f=(!(px f a c).1,(px f a c).2)
 | [],c=>by simp [pG,px]
 | t::ts,c=>by
  by_cases h:(iw t a c).1=true
  ·simp [pG,px,h,My a ts]
  ·simp [pG,px,h]

theorem Va:∀ (t:T) (S:ae) (cs:hZ) (a c:Int) (g:Nat),RdT S cs t->0<=a->a<=31->0<=c->c<=120->
  kt Z7 [.agg cs.toArray,ax a,ee g] [il g c] S (sf g S (iw t a c)):=by
 refine T.ind fun k n s l ih S cs a c g h a5 a6 a7 a8=>?_;intro w f;obtain ⟨kv,rfl,_,_,hs,G⟩:=RdT.iff.1 h;simp only [T.name,T.kids,T.kind,T.n] at hs G ⊢;have m:∀ {L:List Item} {w':World} {v:Value} (r:Bool × Int),Inv w (bS [il g c]) (il g r.2::L) S w'->v=.bool r.1->r=iw (.mk k n s l) a c->
   ∃ Z I' S',Ending.returned v=.returned Z/\Inv w (bS [il g c]) I' S' w'/\Ext w.heap.size (bS [il g c]) S S'/\sf g S (iw (.mk k n s l) a c) Z I' S':=by
  intro L w' v r h1 o q;subst q;exact ⟨_,_,_,rfl,h1.pick [true],Ext.refl _ _ _,o,rfl,rfl⟩
 apply Mv.2;dsimp only[Mv,dR];refine bq f fun b3 w' f=>?_;refine bq f fun V w' f=>?_;refine bq f fun Y w' f=>?_;refine aD f 3 wS rfl rfl (aH (aD f 0 aw rfl rfl (bA (by omega) (aH (dD f 0 (n:=1) rfl (by rw [aw];rfl) rfl (l9 rfl) (by simp [Value.cells];rfl) fun w' f=>?_)))));refine ⟨fun t w'=>t=.bool (decide (120<c+1 ∨ 30<a))/\Inv w (bS [il g c]) [il g (c+1),ay b3 #[ax k,ax n,.string s,kv] ab,ay V #[ax a] cR,ay Y #[ee g] jN] S w',?_,?_⟩
 ·refine aD f 3 wS rfl rfl (aH (aD f 0 aw rfl rfl (ew ?_)));refine Aq (fun h=>⟨?_,f⟩) (fun h=>?_)
  ·have h:=of_decide_eq_true h;rw [aL (show 120<c+1 ∨ 30<a from .inl h)]
  ·refine aD f 2 aw rfl rfl (ew ?_);refine sm h ⟨?_,f⟩;have h:=of_decide_eq_false h
   congr 1
   rw [qt];simp;omega
 intro t _ _ _ _ _ _ _ w';rintro ⟨rfl,f⟩;refine aJ (fun hb=>?_) (fun hb=>?_)
 ·exact m (false,c+1) f rfl (by rw [iw,ai hb])
 have J:∀ r,(if k=1 ∨ k=2 then (fp (.mk k n s l),c+1) else if k=3 then (if fp (.mk k n s l) then px l (a+1) (c+1) else (false,c+1)) else (false,c+1))=r->r=iw (.mk k n s l) a c:=by
  intro r hr;rw [iw,af hb,hr]
 refine ad f 1 rfl aM aw rfl (bn (aJ (fun hk=>?_) (fun hk=>?_)))
 ·have N:fp (.mk k n s l)=(decide (0<=n) && (decide (n<=25) && (decide (s=emptyB) && decide (l.length=0)))):=by
   rw [fp];exact ai hk
  have j:∀ {w':World} {b:Bool},Inv w (bS [il g c]) [il g (c+1),ay b3 #[ax k,ax n,.string s,kv] ab,ay V #[ax a] cR,ay Y #[ee g] jN] S w'->
    b=fp (.mk k n s l)->∃ Z I' S',Ending.returned (.bool b)=.returned Z/\Inv w (bS [il g c]) I' S' w'/\Ext w.heap.size (bS [il g c]) S S'/\sf g S (iw (.mk k n s l) a c) Z I' S':=
   fun f hb=>m (_,c+1) f (by rw [hb]) (J _ (ai (.inl hk)))
  refine ad f 1 rfl aQ aw rfl (Run.callPure iA iv f (gK _ _ _ S) fun w' f=>?_);refine lP (fun o=>?_) (fun o=>?_)
  ·have i:=o;rw [aZ] at i;refine ad f 1 rfl aW aP rfl (bB (jv o (lP (fun q=>?_) (fun q=>j f ?_))))
   ·refine ad f 1 rfl ao aj rfl (aI G ag (bn (jv q (j f ?_))));rw [N,i.1,i.2,show decide (s=emptyB)=true from q];simp
   ·rw [N,i.1,i.2,show decide (s=emptyB)=false from q];rfl
  ·refine sA (j f ?_);rw [N,<- Zo,o];rfl
 refine bn (aJ (fun B=>?_) (fun B=>?_))
 ·have N:fp (.mk k n s l)=(decide (-999<=n) && (decide (n<=999) && (decide (s=emptyB) && decide (l.length=0)))):=by
   rw [fp];exact (af hk).trans (ai B)
  have j:∀ {w':World} {b:Bool},Inv w (bS [il g c]) [il g (c+1),ay b3 #[ax k,ax n,.string s,kv] ab,ay V #[ax a] cR,ay Y #[ee g] jN] S w'->
    b=fp (.mk k n s l)->∃ Z I' S',Ending.returned (.bool b)=.returned Z/\Inv w (bS [il g c]) I' S' w'/\Ext w.heap.size (bS [il g c]) S S'/\sf g S (iw (.mk k n s l) a c) Z I' S':=
   fun f hb=>m (_,c+1) f (by rw [hb]) (J _ (ai (.inr B)))
  refine ad f 1 rfl aQ aw rfl (Run.callPure iA iv f (gK _ _ _ S) fun w' f=>?_);refine lP (fun o=>?_) (fun o=>?_)
  ·have i:=o;rw [aZ] at i;refine ad f 1 rfl aW aP rfl (bB (jv o (lP (fun q=>?_) (fun q=>j f ?_))))
   ·refine ad f 1 rfl ao aj rfl (aI G ag (bn (jv q (j f ?_))));rw [N,i.1,i.2,show decide (s=emptyB)=true from q];simp
   ·rw [N,i.1,i.2,show decide (s=emptyB)=false from q];rfl
  ·refine sA (j f ?_);rw [N,<- Zo,o];rfl
 apply bn;have O:¬ (k=1 ∨ k=2):=fun h=>h.elim hk B;refine aJ (fun D=>?_) (fun D=>?_)
 ·have N:fp (.mk k n s l)=(decide (n=0) && (nR s && decide (l.length<=4))):=by
   rw [fp];exact (af hk).trans ((af B).trans (ai D))
  refine ⟨fun t w'=>t=.bool (!fp (.mk k n s l))/\Inv w (bS [il g c]) [il g (c+1),ay b3 #[ax k,ax n,.string s,kv] ab,ay V #[ax a] cR,ay Y #[ee g] jN] S w',?_,?_⟩
  ·refine ad f 1 rfl aQ aw rfl (dw (Aq (fun h1=>?_) (fun h1=>?_)))
   ·have a1:decide (n=0)=false:=by simpa using h1
    refine ac2 ⟨?_,f⟩;rw [N,a1];rfl
   ·have a1:decide (n=0)=true:=by simpa using h1
    refine ad f 1 rfl aW aP rfl (Run.callPure H3 Js f (DO s hs S) fun w' f=>?_);refine cq (sm h1 ?_);refine Aq (fun o=>⟨?_,f⟩) (fun o=>?_)
    ·have i:nR s=false:=by simpa using o
     rw [N,a1,i];rfl
    ·have i:nR s=true:=by simpa using o
     refine ad f 1 rfl ao aj rfl (aI G ag (ew ?_));refine sm o ⟨?_,f⟩;rw [N,a1,i,dz,dz]
     congr 1
     rw [qt];simp;omega
  intro t _ _ _ _ _ _ _ _ _ _ _ _ _ _ w';rintro ⟨rfl,f⟩;refine aE (fun a2=>?_) (fun a2=>?_)
  ·have U:fp (.mk k n s l)=false:=by simpa using a2
   exact m (false,c+1) f rfl (J _ (by rw [af O,ai D,U];rfl))
  ·have U:fp (.mk k n s l)=true:=by simpa using a2
   refine ad f 1 rfl ao aj rfl (md ?_);have a4:Cb Tryz.prog Uk Tryz.f156 [ee V,ee Y] S
     (fun c:Int=>[il g c,ay V #[ax a] cR,ay Y #[ee g] jN]) (fun c=>0<=c/\c<=120)
     (fun c t=>(!(iw t (a+1) c).1,(iw t (a+1) c).2)) (fun v x=>∃ cs,v=.agg cs.toArray/\RdT S cs x) l:=by
    refine ⟨Sr,RV,fun st x _ a0 hf=>?_,fun st x v hx a0=>?_⟩
    ·have:=Qz x (a+1) st a0.2 (by simpa using hf);omega
    ·rintro ⟨cs,rfl,a3⟩ w1 f;have hl:=a3.length;apply EJ.2;dsimp only[EJ,dR];refine bq f fun b w' f=>?_;refine av f 3 ac rfl (by simpa [Value.cells] using hl) (aD f 1 aw rfl rfl (bA (by omega) (aD f 2 wS rfl rfl ?_)));have f:=f.perm (M:=[ay V #[ax a] cR,ay Y #[ee g] jN,ay b (Value.agg cs.toArray).cells ab]++[il g st])
      (cT (l₁:=[_,_,_]) (l₂:=[il g st]))
     refine Run.call M6 LS f (ih x hx S cs (a+1) st g a3 (by omega) (by omega) a0.1 a0.2) fun Z I' S' w'=>?_;rintro ⟨rfl,rfl,rfl⟩ _ f;refine cq ?_;have f:=(f.perm (M:=[il g (iw x (a+1) st).2]++[ay V #[ax a] cR,ay Y #[ee g] jN,ay b (Value.agg cs.toArray).cells ab])
      cT).pick [true,true,true,false]
     exact ⟨_,_,_,rfl,f,Ext.refl _ _ _,rfl,rfl,rfl⟩
   have f:=f.perm (M:=[ay b3 #[ax k,ax n,.string s,kv] ab]++[il g (c+1),ay V #[ax a] cR,ay Y #[ee g] jN]) (List.Perm.swap _ _ _);refine Run.call fO fL f (jx a4 G ⟨by omega,by omega⟩) fun Z I' S' w'=>?_;rintro ⟨rfl,rfl,rfl⟩ _ f;apply cq;rw [My] at f ⊢;have f:=f.perm (M:=[il g (px l (a+1) (c+1)).2,ay b3 #[ax k,ax n,.string s,kv] ab,ay V #[ax a] cR,ay Y #[ee g] jN]) (List.Perm.swap _ _ _);refine m (px l (a+1) (c+1)) f (by simp) (J _ (by rw [af O,ai D,U];rfl))
 ·exact m (false,c+1) f rfl (J _ (by rw [af O,af D]))

theorem me {t:T} {S:ae} {cs:hZ} (h:RdT S cs t):ll KD [.agg cs.toArray] S (.bool (dP t)):=by
 intro w a;have hl:=h.length;apply uJ.2;dsimp only[uJ,aR];refine bq a fun g w' a=>?_;refine aG a UP fun f w' a=>?_;refine dD a 1 (n:=1) rfl (by rw [aw];rfl) rfl (l9 rfl) (by simp [Value.cells];rfl) fun w' a=>?_;refine av a 0 ac rfl (by simpa [Value.cells] using hl) (Run.call (A:=[_]) (I:=[il f 0]) M6 LS a (Va t S cs 1 0 f h (by omega) (by omega) (by omega) (by omega)) fun i I' S' w'=>?_);rintro ⟨rfl,rfl,rfl⟩ _ a;exact done a (by rw [Ti])
end
section
open Go Go.RowKit

def uF:List ByteArray:=[⟨#[61]⟩,⟨#[92,61]⟩,⟨#[61,61]⟩,⟨#[60]⟩,⟨#[62]⟩,⟨#[61,60]⟩,⟨#[62,61]⟩,⟨#[61,58,61]⟩,⟨#[105,115]⟩]
def tj:List ByteArray:=[⟨#[116,114,117,101]⟩,⟨#[102,97,105,108]⟩]
def yt:List ByteArray:=[⟨#[118,97,114]⟩,⟨#[110,111,110,118,97,114]⟩,⟨#[97,116,111,109]⟩,⟨#[105,110,116]⟩]
def AM:List ByteArray:=[⟨#[43]⟩,⟨#[45]⟩]
def qd:List ByteArray:=[⟨#[42]⟩,⟨#[47,47]⟩,⟨#[109,111,100]⟩]
def dy (s:ByteArray) (l:List ByteArray):Bool:=l.any fun x=>decide (s=x)
def eN (s:ByteArray) (n:Int):Bool:=
 if dy s uF=true then decide (n=2)
 else if dy s tj=true then decide (n=0)
 else if dy s yt=true then decide (n=1)
 else if s=⟨#[97,114,103]⟩ then decide (n=3)
 else false
def di (s:ByteArray):Int:=if dy s uF=true then 3 else if dy s AM=true then 2 else if dy s qd=true then 1 else 0
def fC (t:T):Bool:=decide (t.kind=3) && (decide (t.name=⟨#[33]⟩) && decide (t.kids.length=0))
def Y8 (t:T):Bool:=decide (t.kind=3) && decide (t.kids.length=0)
def bW (t:T):Bool:=decide (t.kind=3) && eN t.name t.kids.length
def eI (t:T):Bool:=decide (t.kind=3) && (o5 t.name && (!eN t.name t.kids.length && decide (di t.name=0)))
def fi (t:T):Bool:=dP t && (fC t || (eI t || bW t))
def cz (c:C):Bool:=decide (c.body.length<=6) && (c.body.all fi && (dP c.head && eI c.head))
def eJ (l:List T):Bool:=decide (l.length<=6) && l.all fi
def dZ (p:List C):Bool:=decide (p.length<=20) && p.all cz
theorem W0 (s:ByteArray):(!decide (0<di s))=decide (di s=0):=by
 unfold di;split
 ·rfl
 ·split
  ·rfl
  ·split <;> rfl

theorem ij (s:ByteArray) (n:Int) (S:ae):ll Lt [.string s,ax n] S (.bool (eN s n)):=by
 intro w g;apply wv.2;dsimp only[wv,bl];obtain ⟨q,a⟩:∃ q,dy s uF=q:=⟨_,rfl⟩
 have f:=a;refine ⟨fun t w'=>t=.bool q/\Inv w [] [] S w',?_,?_⟩
 ·unfold dy uF at a
  iterate 8
   apply bB;refine aE (fun h=>⟨by rw [fD,h] at a;rw [h,<- a];rfl,g⟩) (fun h=>?_);rw [fD,h,ib] at a
  refine bB ⟨?_,g⟩;rw [<- a];simp
 intro t _ _ _ _ _ _ _ _ _ w';rintro ⟨rfl,g⟩;refine aE (fun h=>?_) (fun h=>?_)
 ·exact bn (done g (by rw [eN,ai (f.trans h)]))
 have e1:eN s n=if dy s tj=true then decide (n=0) else if dy s yt=true then decide (n=1) else if s=⟨#[97,114,103]⟩ then decide (n=3) else false:=by
  rw [eN,af (by rw [f,h];decide)]
 clear a f h;obtain ⟨q,a⟩:∃ q,dy s tj=q:=⟨_,rfl⟩
 have f:=a;refine ⟨fun t w'=>t=.bool q/\Inv w [] [] S w',?_,?_⟩
 ·unfold dy tj at a;apply bB;refine aE (fun h=>⟨by rw [fD,h] at a;rw [h,<- a];rfl,g⟩) (fun h=>?_);rw [fD,h,ib] at a;refine bB ⟨?_,g⟩;rw [<- a];simp
 intro _ t _ w';rintro ⟨rfl,g⟩;refine aE (fun h=>?_) (fun h=>?_)
 ·exact bn (done g (by rw [e1,ai (f.trans h)]))
 rw [af (by rw [f,h];decide)] at e1;clear a f h;obtain ⟨q,a⟩:∃ q,dy s yt=q:=⟨_,rfl⟩
 have f:=a;refine ⟨fun t w'=>t=.bool q/\Inv w [] [] S w',?_,?_⟩
 ·unfold dy yt at a
  iterate 3
   apply bB;refine aE (fun h=>⟨by rw [fD,h] at a;rw [h,<- a];rfl,g⟩) (fun h=>?_);rw [fD,h,ib] at a
  refine bB ⟨?_,g⟩;rw [<- a];simp
 intro _ _ _ t _ w';rintro ⟨rfl,g⟩;refine aE (fun h=>?_) (fun h=>?_)
 ·exact bn (done g (by rw [e1,ai (f.trans h)]))
 rw [af (by rw [f,h];decide)] at e1;refine bB (aJ (fun h=>?_) (fun h=>?_))
 ·exact bn (done g (by rw [e1,ai h]))
 ·exact done g (by rw [e1,af h])
theorem DX (s:ByteArray) (n:Int) (S:ae):ll Lg [.string s,ax n] S (.bool (eN s n)):=by
 intro w g;apply vM.2;dsimp only[vM,bl];obtain ⟨q,a⟩:∃ q,dy s uF=q:=⟨_,rfl⟩
 have f:=a;refine ⟨fun t w'=>t=.bool q/\Inv w [] [] S w',?_,?_⟩
 ·unfold dy uF at a
  iterate 8
   apply bB;refine aE (fun h=>⟨by rw [fD,h] at a;rw [h,<- a];rfl,g⟩) (fun h=>?_);rw [fD,h,ib] at a
  refine bB ⟨?_,g⟩;rw [<- a];simp
 intro t _ _ _ _ _ _ _ _ _ w';rintro ⟨rfl,g⟩;refine aE (fun h=>?_) (fun h=>?_)
 ·exact bn (done g (by rw [eN,ai (f.trans h)]))
 have e1:eN s n=if dy s tj=true then decide (n=0) else if dy s yt=true then decide (n=1) else if s=⟨#[97,114,103]⟩ then decide (n=3) else false:=by
  rw [eN,af (by rw [f,h];decide)]
 clear a f h;obtain ⟨q,a⟩:∃ q,dy s tj=q:=⟨_,rfl⟩
 have f:=a;refine ⟨fun t w'=>t=.bool q/\Inv w [] [] S w',?_,?_⟩
 ·unfold dy tj at a;apply bB;refine aE (fun h=>⟨by rw [fD,h] at a;rw [h,<- a];rfl,g⟩) (fun h=>?_);rw [fD,h,ib] at a;refine bB ⟨?_,g⟩;rw [<- a];simp
 intro _ t _ w';rintro ⟨rfl,g⟩;refine aE (fun h=>?_) (fun h=>?_)
 ·exact bn (done g (by rw [e1,ai (f.trans h)]))
 rw [af (by rw [f,h];decide)] at e1;clear a f h;obtain ⟨q,a⟩:∃ q,dy s yt=q:=⟨_,rfl⟩
 have f:=a;refine ⟨fun t w'=>t=.bool q/\Inv w [] [] S w',?_,?_⟩
 ·unfold dy yt at a
  iterate 3
   apply bB;refine aE (fun h=>⟨by rw [fD,h] at a;rw [h,<- a];rfl,g⟩) (fun h=>?_);rw [fD,h,ib] at a
  refine bB ⟨?_,g⟩;rw [<- a];simp
 intro _ _ _ t _ w';rintro ⟨rfl,g⟩;refine aE (fun h=>?_) (fun h=>?_)
 ·exact bn (done g (by rw [e1,ai (f.trans h)]))
 rw [af (by rw [f,h];decide)] at e1;refine bB (aJ (fun h=>?_) (fun h=>?_))
 ·exact bn (done g (by rw [e1,ai h]))
 ·exact done g (by rw [e1,af h])

theorem eZ (s:ByteArray) (S:ae):ll Ra [.string s] S (ax (di s)):=by
 intro w g;apply Az.2;dsimp only[Az,aR];obtain ⟨q,a⟩:∃ q,dy s uF=q:=⟨_,rfl⟩
 have f:=a;refine ⟨fun t w'=>t=.bool q/\Inv w [] [] S w',?_,?_⟩
 ·unfold dy uF at a
  iterate 8
   apply bB;refine aE (fun h=>⟨by rw [fD,h] at a;rw [h,<- a];rfl,g⟩) (fun h=>?_);rw [fD,h,ib] at a
  refine bB ⟨?_,g⟩;rw [<- a];simp
 intro _ _ _ _ _ _ _ _ t _ w';rintro ⟨rfl,g⟩;refine aE (fun h=>?_) (fun h=>?_)
 ·exact done g (by rw [show di s=3 from ai (f.trans h)] <;> rfl)
 have e1:di s=if dy s AM=true then 2 else if dy s qd=true then 1 else 0:=by
  rw [di,af (by rw [f,h];decide)]
 clear a f h;obtain ⟨q,a⟩:∃ q,dy s AM=q:=⟨_,rfl⟩
 have f:=a;refine ⟨fun t w'=>t=.bool q/\Inv w [] [] S w',?_,?_⟩
 ·unfold dy AM at a;apply bB;refine aE (fun h=>⟨by rw [fD,h] at a;rw [h,<- a];rfl,g⟩) (fun h=>?_);rw [fD,h,ib] at a;refine bB ⟨?_,g⟩;rw [<- a];simp
 intro _ t _ w';rintro ⟨rfl,g⟩;refine aE (fun h=>?_) (fun h=>?_)
 ·exact done g (by rw [show di s=2 from e1.trans (ai (f.trans h))] <;> rfl)
 rw [af (by rw [f,h];decide)] at e1;clear a f h;obtain ⟨q,a⟩:∃ q,dy s qd=q:=⟨_,rfl⟩
 have f:=a;refine ⟨fun t w'=>t=.bool q/\Inv w [] [] S w',?_,?_⟩
 ·unfold dy qd at a
  iterate 2
   apply bB;refine aE (fun h=>⟨by rw [fD,h] at a;rw [h,<- a];rfl,g⟩) (fun h=>?_);rw [fD,h,ib] at a
  refine bB ⟨?_,g⟩;rw [<- a];simp
 intro _ _ t _ w';rintro ⟨rfl,g⟩;refine aE (fun h=>?_) (fun h=>?_)
 ·exact done g (by rw [show di s=1 from e1.trans (ai (f.trans h))] <;> rfl)
 ·exact done g (by rw [show di s=0 from e1.trans (af (by rw [f,h];decide))] <;> rfl)
theorem GU (s:ByteArray) (S:ae):ll Rg [.string s] S (.tuple #[ax (di s),.bool (decide (di s=1) || decide (di s=2))]):=by
 intro w g;apply Be.2;dsimp only[Be,aR];obtain ⟨q,a⟩:∃ q,dy s uF=q:=⟨_,rfl⟩
 have f:=a;refine ⟨fun t w'=>t=.bool q/\Inv w [] [] S w',?_,?_⟩
 ·unfold dy uF at a
  iterate 8
   apply bB;refine aE (fun h=>⟨by rw [fD,h] at a;rw [h,<- a];rfl,g⟩) (fun h=>?_);rw [fD,h,ib] at a
  refine bB ⟨?_,g⟩;rw [<- a];simp
 intro _ _ _ _ _ _ _ _ t _ w';rintro ⟨rfl,g⟩;refine aE (fun h=>?_) (fun h=>?_)
 ·exact done g (by rw [show di s=3 from ai (f.trans h)] <;> rfl)
 have e1:di s=if dy s AM=true then 2 else if dy s qd=true then 1 else 0:=by
  rw [di,af (by rw [f,h];decide)]
 clear a f h;obtain ⟨q,a⟩:∃ q,dy s AM=q:=⟨_,rfl⟩
 have f:=a;refine ⟨fun t w'=>t=.bool q/\Inv w [] [] S w',?_,?_⟩
 ·unfold dy AM at a;apply bB;refine aE (fun h=>⟨by rw [fD,h] at a;rw [h,<- a];rfl,g⟩) (fun h=>?_);rw [fD,h,ib] at a;refine bB ⟨?_,g⟩;rw [<- a];simp
 intro _ t _ w';rintro ⟨rfl,g⟩;refine aE (fun h=>?_) (fun h=>?_)
 ·exact done g (by rw [show di s=2 from e1.trans (ai (f.trans h))] <;> rfl)
 rw [af (by rw [f,h];decide)] at e1;clear a f h;obtain ⟨q,a⟩:∃ q,dy s qd=q:=⟨_,rfl⟩
 have f:=a;refine ⟨fun t w'=>t=.bool q/\Inv w [] [] S w',?_,?_⟩
 ·unfold dy qd at a
  iterate 2
   apply bB;refine aE (fun h=>⟨by rw [fD,h] at a;rw [h,<- a];rfl,g⟩) (fun h=>?_);rw [fD,h,ib] at a
  refine bB ⟨?_,g⟩;rw [<- a];simp
 intro _ _ t _ w';rintro ⟨rfl,g⟩;refine aE (fun h=>?_) (fun h=>?_)
 ·exact done g (by rw [show di s=1 from e1.trans (ai (f.trans h))] <;> rfl)
 ·exact done g (by rw [show di s=0 from e1.trans (af (by rw [f,h];decide))] <;> rfl)

theorem pV {t:T} {S:ae} {cs:hZ} (h:RdT S cs t):ll Xr [.agg cs.toArray] S (.bool (fC t)):=by
 intro w a;obtain ⟨kv,rfl,_,_,i,f⟩:=RdT.iff.1 h;obtain ⟨k,n,s,g⟩:=t;simp only [T.name,T.kids,T.kind,T.n] at i f ⊢;apply ID.2;dsimp only[ID,aR];refine bq a fun j w' a=>?_;refine ad a 0 rfl aM aw rfl (bn ?_);rw [show fC (.mk k n s g)=(decide (k=3) && (decide (s=⟨#[33]⟩) && decide (g.length=0))) from rfl];cases l:decide (k=3)
 ·refine rpG ?_;exact done a rfl
 ·refine rpG ?_;refine ad a 0 rfl aW aP rfl (bB ?_);cases m:decide (s=⟨#[33]⟩)
  ·refine rpG ?_;exact done a rfl
  ·refine rpG ?_;refine ad a 0 rfl ao aj rfl (aI f ag (bn ?_));refine rpG ?_;exact done a (by simp)

theorem yW {t:T} {S:ae} {cs:hZ} (h:RdT S cs t):ll R4 [.agg cs.toArray] S (.bool (eI t)):=by
 intro w a;obtain ⟨kv,rfl,_,_,i,f⟩:=RdT.iff.1 h;obtain ⟨k,n,s,g⟩:=t;simp only [T.name,T.kids,T.kind,T.n] at i f ⊢;apply Bm.2;dsimp only[Bm,aR];refine bq a fun j w' a=>?_;refine ad a 0 rfl aM aw rfl (bn ?_);rw [show eI (.mk k n s g)=(decide (k=3) && (o5 s && (!eN s g.length && decide (di s=0)))) from rfl];cases l:decide (k=3)
 ·refine rpG ?_;exact done a rfl
 ·refine rpG ?_;refine ad a 0 rfl aW aP rfl (Run.callPure Fy Fo a (Br s i S) fun w' a=>?_);cases m:o5 s
  ·refine rpG ?_;exact done a rfl
  ·refine rpG ?_;refine ad a 0 rfl aW aP rfl (ad a 0 rfl ao aj rfl (aI f ag (Run.callPure jq jn a (ij s _ S) fun w' a=>?_)));apply cq;cases o:eN s g.length
   ·refine rpG ?_;refine ad a 0 rfl aW aP rfl (Run.callPure gD gI a (eZ s S) fun w' a=>?_);apply bn;refine rpG ?_;exact done a rfl
   ·refine rpG ?_;exact done a rfl

theorem O9 {t:T} {S:ae} {cs:hZ} (h:RdT S cs t):ll SY [.agg cs.toArray] S (.bool (fC t || (eI t || bW t))):=by
 intro w a;have i:=h;obtain ⟨kv,rfl,_,_,j,f⟩:=RdT.iff.1 h;obtain ⟨k,n,s,g⟩:=t;simp only [T.name,T.kids,T.kind,T.n] at i j f ⊢;apply FN.2;dsimp only[FN,aR];refine bq a fun l w' a=>?_;refine av a 0 ac rfl rfl (Run.callPure s0 sX a (pV i) fun w' a=>?_);cases m:fC (.mk k n s g)
 ·refine rpG ?_;refine av a 0 ac rfl rfl (Run.callPure CM AA a (yW i) fun w' a=>?_);cases o:eI (.mk k n s g)
  ·refine rpG ?_;refine ad a 0 rfl aM aw rfl (bn ?_);rw [show bW (.mk k n s g)=(decide (k=3) && eN s g.length) from rfl];cases q:decide (k=3)
   ·refine rpG ?_;exact done a rfl
   ·refine rpG ?_;refine ad a 0 rfl aW aP rfl (ad a 0 rfl ao aj rfl (aI f ag (Run.callPure jq jn a (ij s _ S) fun w' a=>?_)));refine rpG ?_;exact done a rfl
  ·refine rpG ?_;exact done a rfl
 ·refine rpG ?_;exact done a rfl

theorem Hr {t:T} (h:wT t<=1048576):ez t<=4611686018427387904:=by
 have:=Z5 t;omega
theorem l4 {t:T} {S:ae} {cs:hZ} (h:RdT S cs t) (hc:wT t<=1048576):ll KN [.agg cs.toArray] S (.bool (fi t)):=by
 intro w a;have hl:=h.length;apply vp.2;dsimp only[vp,aR];refine bq a fun f w' a=>?_;refine av a 0 ac rfl (by simpa [Value.cells] using hl) (Run.callPure i9 ja a (iq h (Hr hc)) fun w' a=>?_);rw [fi];cases g:dP t
 ·refine rpG ?_;exact done a rfl
 ·refine rpG ?_;refine av a 0 ac rfl (by simpa [Value.cells] using hl) (Run.callPure SA Ru a (O9 h) fun w' a=>?_);refine rpG ?_;exact done a rfl


theorem Pa {ts:List T} {t:T} (h:t∈ts):wT t<=wL ts:=by
 induction ts with
 | nil=>simp at h
 | cons u us a=>
  rw [wL];rcases cw.1 h with rfl|h
  ·omega
  ·have:=a h;omega
theorem o8 {c:C} {S:ae} {cs:hZ} (h:RdC S cs c) (hc:wC c<=1048576):ll GN [.agg cs.toArray] S (.bool (cz c)):=by
 intro w a;obtain ⟨hd,O,rfl,U,J⟩:=h;have B:=U;obtain ⟨kv,rfl,g1,g2,g3,g4⟩:=RdT.iff.1 U;have D:=J.le;simp only [maxLen] at D;unfold wC at hc;refine rB.2 ?_;dsimp only[rB,aR];refine bq a fun N w' a=>?_;refine ⟨fun i w'=>∃ k:Nat,k<=c.body.length/\k<=7/\i=ax k/\(∀ j (h:j<c.body.length),j<k->fi c.body[j]=true)/\Inv w [] [ay N #[ax c.head.kind,ax c.head.n,.string c.head.name,kv,O] aB] S w',
  fun i _=>c.body.length - (intOf i).toNat,⟨0,bf _,by omega,rfl,fun j _ h=>by omega,a⟩,?_⟩
 intro t3;(iterate 19 intro);intro w';rintro ⟨k,hk,V,rfl,q,a⟩;refine ⟨fun t w'=>t=.bool (decide (k<c.body.length/\k<=6))/\Inv w [] [ay N #[ax c.head.kind,ax c.head.n,.string c.head.name,kv,O] aB] S w',?_,?_⟩
 ·refine ad a 0 rfl bF aj rfl (aI J ag (bM ?_));by_cases g:(k:Int)<c.body.length
  ·rw [aL g];refine rpG ?_;apply gJ;refine rpG ?_;refine ⟨?_,a⟩
   congr 1
   rw [qt];simp;omega
  ·rw [aS g];refine rpG ?_;exact ⟨by rw [aS (by omega)],a⟩
 intro t _ _ _ _ _ _ _ _ w';rintro ⟨rfl,a⟩;refine aJ (fun g=>?_) (fun g=>?_)
 ·obtain ⟨m,a1⟩:=g;refine ad a 0 rfl bF aj rfl (cL a J ag ac m (fun _ _=>RdT.length) fun Z r=>?_);have a2:=Pa (bJ m);refine Run.callPure oX pz a (l4 r (by omega)) fun w' a=>?_;apply cq;refine aE (fun M=>done a ?_) (fun M=>?_)
  ·have o:fi c.body[k]=false:=by simpa using M
   have:c.body.all fi=false:=by
    rw [<- PW,eX];intro f;rw [f _ (bJ m)] at o;cases o
   rw [cz,this];simp
  ·have o:fi c.body[k]=true:=by simpa using M
   refine bA (by omega) ?_;refine ⟨⟨k+1,m,by omega,rfl,fun j l a0=>?_,a⟩,by simp [intOf];omega⟩;by_cases e:j=k
   ·subst e;exact o
   ·exact q j l (by omega)
 ·refine ad a 0 rfl bF aj rfl (aI J ag (gJ ?_));rw [cz];by_cases G:c.body.length<=6
  ·have f:c.body.all fi=true:=by
    rw [eX];intro x Y;obtain ⟨j,l,rfl⟩:=CV Y;exact q j l (by omega)
   rw [aL (show (c.body.length:Int)<=6 by omega),aL G,f];refine rpG ?_;refine ah dl (cP a 0 (hJ c.head kv) ac rfl rfl ?_ ?_)
   ·intro j v l
    match j with
    | 0|1|2|3=>exact l
    | j+4=>simp at l
   refine Run.callPure i9 ja a (iq B (Hr (by omega))) fun w' a=>?_;cases hv:dP c.head
   ·refine rpG ?_;exact done a rfl
   ·refine rpG ?_;refine ah dl (cP a 0 (hJ c.head kv) ac rfl rfl ?_ ?_)
    ·intro j v l
     match j with
     | 0|1|2|3=>exact l
     | j+4=>simp at l
    refine Run.callPure CM AA a (yW B) fun w' a=>?_;refine rpG ?_;exact done a rfl
  ·rw [aS (show ¬ (c.body.length:Int)<=6 by omega),aS G];refine rpG ?_;exact done a rfl

theorem zx {xs:List T} {S:ae} {v:Value} (h:RdSl S 4 (RdT S) v xs) (hc:wL xs<=1048576):ll Jh [v] S (.bool (eJ xs)):=by
 intro w a;have r:=h.le;simp only [maxLen] at r;refine tS.2 ?_;dsimp only[tS,aR];refine ⟨fun i w'=>∃ k:Nat,k<=xs.length/\k<=6+1/\i=ax k/\(∀ j (h:j<xs.length),j<k->fi xs[j]=true)/\Inv w [] [] S w',
  fun i _=>xs.length - (intOf i).toNat,⟨0,bf _,by omega,rfl,fun j _ h=>by omega,a⟩,?_⟩
 intro Y;(iterate 17 intro);intro w';rintro ⟨k,hk,J,rfl,o,a⟩;refine ⟨fun t w'=>t=.bool (decide (k<xs.length/\k<=6))/\Inv w [] [] S w',?_,?_⟩
 ·refine aI h ag (bM ?_);by_cases g:(k:Int)<xs.length
  ·rw [aL g];refine rpG ?_;apply gJ;refine rpG ?_;refine ⟨?_,a⟩
   congr 1
   rw [qt];simp;omega
  ·rw [aS g];refine rpG ?_;exact ⟨by rw [aS (by omega)],a⟩
 intro t _ _ _ _ _ _ _ w';rintro ⟨rfl,a⟩;refine aJ (fun g=>?_) (fun g=>?_)
 ·obtain ⟨l,U⟩:=g;refine cL a h ag ac l (fun _ _=>RdT.length) fun N q=>?_;have V:=Pa (bJ l);refine Run.callPure oX pz a (l4 q (by omega)) fun w' a=>?_;apply cq;refine aE (fun D=>done a ?_) (fun D=>?_)
  ·have m:fi xs[k]=false:=by simpa using D
   have:xs.all fi=false:=by
    rw [<- PW,eX];intro f;rw [f _ (bJ l)] at m;cases m
   rw [eJ,this,m5]
  ·have m:fi xs[k]=true:=by simpa using D
   refine bA (by omega) ?_;refine ⟨⟨k+1,l,by omega,rfl,fun j G O=>?_,a⟩,by simp [intOf];omega⟩;by_cases e:j=k
   ·subst e;exact m
   ·exact o j G (by omega)
 ·refine aI h ag (gJ ?_);rw [eJ];refine done a ?_;by_cases B:xs.length<=6
  ·have f:xs.all fi=true:=by
    rw [eX];intro x M;obtain ⟨j,G,rfl⟩:=CV M;exact o j G (by omega)
   rw [aL (show (xs.length:Int)<=6 by omega),aL B,f];rfl
  ·rw [aS (show ¬ (xs.length:Int)<=6 by omega),aS B];rfl
theorem vF {xs:List C} {S:ae} {v:Value} (h:RdSl S 5 (RdC S) v xs) (hc:wP xs<=1048576):ll DA [v] S (.bool (dZ xs)):=by
 intro w a;have r:=h.le;simp only [maxLen] at r;refine pL.2 ?_;dsimp only[pL,aR];refine ⟨fun i w'=>∃ k:Nat,k<=xs.length/\k<=20+1/\i=ax k/\(∀ j (h:j<xs.length),j<k->cz xs[j]=true)/\Inv w [] [] S w',
  fun i _=>xs.length - (intOf i).toNat,⟨0,bf _,by omega,rfl,fun j _ h=>by omega,a⟩,?_⟩
 intro Y;(iterate 17 intro);intro w';rintro ⟨k,hk,J,rfl,o,a⟩;refine ⟨fun t w'=>t=.bool (decide (k<xs.length/\k<=20))/\Inv w [] [] S w',?_,?_⟩
 ·refine aI h cr (bM ?_);by_cases g:(k:Int)<xs.length
  ·rw [aL g];refine rpG ?_;apply gJ;refine rpG ?_;refine ⟨?_,a⟩
   congr 1
   rw [qt];simp;omega
  ·rw [aS g];refine rpG ?_;exact ⟨by rw [aS (by omega)],a⟩
 intro t _ _ _ _ _ _ _ w';rintro ⟨rfl,a⟩;refine aJ (fun g=>?_) (fun g=>?_)
 ·obtain ⟨l,U⟩:=g;refine cL a h cr bR l (fun _ _=>RdC.length) fun N q=>?_;have V:=ZB (bJ l);refine Run.callPure rG rj a (o8 q (by omega)) fun w' a=>?_;apply cq;refine aE (fun D=>done a ?_) (fun D=>?_)
  ·have m:cz xs[k]=false:=by simpa using D
   have:xs.all cz=false:=by
    rw [<- PW,eX];intro f;rw [f _ (bJ l)] at m;cases m
   rw [dZ,this,m5]
  ·have m:cz xs[k]=true:=by simpa using D
   refine bA (by omega) ?_;refine ⟨⟨k+1,l,by omega,rfl,fun j G O=>?_,a⟩,by simp [intOf];omega⟩;by_cases e:j=k
   ·subst e;exact m
   ·exact o j G (by omega)
 ·refine aI h cr (gJ ?_);rw [dZ];refine done a ?_;by_cases B:xs.length<=20
  ·have f:xs.all cz=true:=by
    rw [eX];intro x M;obtain ⟨j,G,rfl⟩:=CV M;exact o j G (by omega)
   rw [aL (show (xs.length:Int)<=20 by omega),aL B,f];rfl
  ·rw [aS (show ¬ (xs.length:Int)<=20 by omega),aS B];rfl

theorem VI (s:ByteArray) (S:ae):ll ZI [.string s] S (.bool (decide (0<di s))):=by
 intro w a;apply Mm.2;dsimp only[Mm,aR];refine Run.callPure Of N7 a (GU s S) fun w' a=>?_;refine al rfl (al rfl (ew ?_));exact done a rfl
theorem jQ {t:T} {S:ae} {cs:hZ} (h:RdT S cs t):ll QO [.agg cs.toArray] S (.bool (bW t)):=by
 intro w a;obtain ⟨kv,rfl,_,_,i,f⟩:=RdT.iff.1 h;obtain ⟨k,n,s,g⟩:=t;simp only [T.name,T.kids,T.kind,T.n] at i f ⊢;apply A8.2;dsimp only[A8,aR];refine bq a fun j w' a=>?_;refine ad a 0 rfl aM aw rfl (bn ?_);rw [show bW (.mk k n s g)=(decide (k=3) && eN s g.length) from rfl];cases l:decide (k=3)
 ·refine rpG ?_;exact done a rfl
 ·refine rpG ?_;refine ad a 0 rfl aW aP rfl (ad a 0 rfl ao aj rfl (aI f ag (Run.callPure Jp IC a (DX s _ S) fun w' a=>?_)));refine rpG ?_;exact done a rfl
theorem qG {t:T} {S:ae} {cs:hZ} (h:RdT S cs t):ll QR [.agg cs.toArray] S (.bool (eI t)):=by
 intro w a;have j:=h;obtain ⟨kv,rfl,_,_,i,g⟩:=RdT.iff.1 h;obtain ⟨k,n,s,f⟩:=t;simp only [T.name,T.kids,T.kind,T.n] at j i g ⊢;apply CW.2;dsimp only[CW,aR];refine bq a fun o w' a=>?_;refine ad a 0 rfl aM aw rfl (bn ?_);have l:bW (.mk k n s f)=(decide (k=3) && eN s f.length):=rfl;rw [show eI (.mk k n s f)=(decide (k=3) && (o5 s && (!eN s f.length && decide (di s=0)))) from rfl];cases m:decide (k=3)
 ·refine rpG ?_;exact done a rfl
 ·rw [m] at l;refine rpG ?_;refine ad a 0 rfl aW aP rfl (Run.callPure vj wB a (um s i S) fun w' a=>?_);cases q:o5 s
  ·refine rpG ?_;exact done a rfl
  ·refine rpG ?_;refine ad a 0 rfl aW aP rfl (Run.callPure X6 XT a (VI s S) fun w' a=>?_);apply cq;rw [W0];cases r:decide (di s=0)
   ·refine rpG ?_;exact done a (by simp)
   ·refine rpG ?_;refine av a 0 ac rfl rfl (Run.callPure lG lq a (jQ j) fun w' a=>?_);apply cq;refine rpG ?_;exact done a (by rw [l];simp)
theorem Bc {t:T} {S:ae} {cs:hZ} (h:RdT S cs t):ll VH [.agg cs.toArray] S (.bool (Y8 t)):=by
 intro w a;obtain ⟨kv,rfl,_,_,i,f⟩:=RdT.iff.1 h;obtain ⟨k,n,s,g⟩:=t;simp only [T.name,T.kids,T.kind,T.n] at i f ⊢;apply FZ.2;dsimp only[FZ,aR];refine bq a fun j w' a=>?_;refine ad a 0 rfl aM aw rfl (bn ?_);rw [show Y8 (.mk k n s g)=(decide (k=3) && decide (g.length=0)) from rfl];cases l:decide (k=3)
 ·refine rpG ?_;exact done a rfl
 ·refine rpG ?_;refine ad a 0 rfl ao aj rfl (aI f ag (bn ?_));refine rpG ?_;exact done a (by simp)
theorem mY {t:T} {S:ae} {cs:hZ} (h:RdT S cs t):ll XK [.agg cs.toArray] S (.bool (fC t)):=by
 intro w f;have j:=h;obtain ⟨kv,rfl,_,_,l,i⟩:=RdT.iff.1 h;obtain ⟨k,n,s,g⟩:=t;simp only [T.name,T.kids,T.kind,T.n] at j l i ⊢;apply Hz.2;dsimp only[Hz,aR];refine bq f fun o w' f=>?_;refine av f 0 ac rfl rfl (Run.callPure FB EK f (Bc j) fun w' f=>?_);rw [show fC (.mk k n s g)=(decide (k=3) && (decide (s=⟨#[33]⟩) && decide (g.length=0))) from rfl];cases a:Y8 (.mk k n s g)
 ·refine rpG ?_;refine done f ?_
  replace a:(decide (k=3) && decide (g.length=0))=false:=a
  cases m:decide (k=3)
  ·rfl
  ·rw [m,dz] at a;rw [a,m5];rfl
 ·refine rpG ?_;refine ad f 0 rfl aW aP rfl (bB ?_);refine rpG ?_;refine done f ?_
  replace a:(decide (k=3) && decide (g.length=0))=true:=a
  rw [aZ] at a;rw [a.1,a.2];simp
theorem rT {t:T} {S:ae} {cs:hZ} (h:RdT S cs t):ll LD [.agg cs.toArray] S (.bool (fi t)):=by
 intro w a;have hl:=h.length;apply vf.2;dsimp only[vf,aR];refine bq a fun f w' a=>?_;refine av a 0 ac rfl (by simpa [Value.cells] using hl) (Run.callPure oJ pf a (me h) fun w' a=>?_);rw [fi];cases g:dP t
 ·refine rpG ?_;exact done a rfl
 ·refine rpG ?_;refine av a 0 ac rfl (by simpa [Value.cells] using hl) (Run.callPure sQ s8 a (qG h) fun w' a=>?_);cases i:eI t
  ·refine rpG ?_;refine av a 0 ac rfl (by simpa [Value.cells] using hl) (Run.callPure lG lq a (jQ h) fun w' a=>?_);cases j:bW t
   ·refine rpG ?_;refine av a 0 ac rfl (by simpa [Value.cells] using hl) (Run.callPure o6 oG a (mY h) fun w' a=>?_);refine rpG ?_;exact done a (by simp)
   ·refine rpG ?_;exact done a (by simp)
  ·refine rpG ?_;exact done a (by simp)

theorem Ns {α:Type} (p:α->Bool):∀ xs:List α,(!xs.any fun x=>!p x)=xs.all p
 | []=>rfl
 | x::xs=>by
  rw [fD,Wu,<- Ns p xs];cases p x <;> simp

theorem xz {x:T} {S:ae} {cs:hZ} (h:RdT S cs x):ll rS [.agg cs.toArray] S (.bool (!fi x)):=by
 intro w a;have hl:=h.length;apply qj.2;dsimp only[qj,aR];refine bq a fun f w' a=>?_;refine av a 0 ac rfl (by simpa [Value.cells] using hl) (Run.callPure wM vt a (rT h) fun w' a=>?_);refine cq (done a rfl)
theorem pU {xs:List T} {S:ae} {v:Value} (h:RdSl S 4 (RdT S) v xs):ll JJ [v] S (.bool (eJ xs)):=by
 intro w a;apply ul.2;dsimp only[ul,aR];refine aI h ag (gJ ?_);rw [eJ];by_cases f:xs.length<=6
 ·rw [aL (show (xs.length:Int)<=6 by omega),aL f];refine rpG ?_;have i:Cb Tryz.prog rS _ [] S (fun _:Unit=>[]) (fun _=>True) (fun _ x=>(!fi x,())) (fun v x=>∃ cs,v=.agg cs.toArray/\RdT S cs x) xs:=
   Cb.pure [] CG C0 fun x v _=>by
    rintro ⟨cs,rfl,g⟩ j a;exact (xz g j a).mono fun e w' ⟨l,a⟩=>⟨_,_,_,l,a,Ext.refl _ _ _,rfl,rfl,rfl⟩
  refine Run.call0 fO fL a (jx i h (st:=()) trivial) fun m I' S' w'=>?_;rintro ⟨rfl,rfl,rfl⟩ _ a;apply cq;refine rpG ?_;refine done a ?_;rw [mu (fun x=>!fi x) xs,Ns];rfl
 ·rw [aS (show ¬ (xs.length:Int)<=6 by omega),aS f];refine rpG ?_;exact done a rfl
theorem zz {c:C} {S:ae} {cs:hZ} (h:RdC S cs c):ll GJ [.agg cs.toArray] S (.bool (cz c)):=by
 intro w a;obtain ⟨hd,q,rfl,l,m⟩:=h;have g:=l;obtain ⟨kv,rfl,r,g2,t,B⟩:=RdT.iff.1 l;have i:cz c=(dP c.head && (eI c.head && eJ c.body)):=by
  unfold cz eJ;cases dP c.head <;> cases eI c.head <;> simp
 apply rJ.2;dsimp only[rJ,aR];rw [i];refine bq a fun o w' a=>?_;refine ah dl (cP a 0 (hJ c.head kv) ac rfl rfl ?_ ?_)
 ·intro j v f
  match j with
  | 0|1|2|3=>exact f
  | j+4=>simp at f
 refine Run.callPure oJ pf a (me g) fun w' a=>?_;cases D:dP c.head
 ·refine rpG ?_;exact done a rfl
 ·refine rpG ?_;refine ah dl (cP a 0 (hJ c.head kv) ac rfl rfl ?_ ?_)
  ·intro j v f
   match j with
   | 0|1|2|3=>exact f
   | j+4=>simp at f
  refine Run.callPure sQ s8 a (qG g) fun w' a=>?_;cases G:eI c.head
  ·refine rpG ?_;exact done a rfl
  ·refine rpG ?_;refine ad a 0 rfl bF aj rfl (Run.callPure tK tQ a (pU m) fun w' a=>?_);refine rpG ?_;exact done a rfl

theorem uA {x:C} {S:ae} {cs:hZ} (h:RdC S cs x):ll oD [.agg cs.toArray] S (.bool (!cz x)):=by
 intro w a;have hl:=h.length;apply nM.2;dsimp only[nM,aR];refine bq a fun f w' a=>?_;refine av a 0 bR rfl (by simpa [Value.cells] using hl) (Run.callPure Dp Ev a (zz h) fun w' a=>?_);refine cq (done a rfl)
theorem jL {xs:List C} {S:ae} {v:Value} (h:RdSl S 5 (RdC S) v xs):ll DR [v] S (.bool (dZ xs)):=by
 intro w a;apply qm.2;dsimp only[qm,aR];refine aI h cr (gJ ?_);rw [dZ];by_cases f:xs.length<=20
 ·rw [aL (show (xs.length:Int)<=20 by omega),aL f];refine rpG ?_;have i:Cb Tryz.prog oD _ [] S (fun _:Unit=>[]) (fun _=>True) (fun _ x=>(!cz x,())) (fun v x=>∃ cs,v=.agg cs.toArray/\RdC S cs x) xs:=
   Cb.pure [] xG xK fun x v _=>by
    rintro ⟨cs,rfl,g⟩ j a;exact (uA g j a).mono fun e w' ⟨l,a⟩=>⟨_,_,_,l,a,Ext.refl _ _ _,rfl,rfl,rfl⟩
  refine Run.call0 jO j8 a (lm i h (st:=()) trivial) fun m I' S' w'=>?_;rintro ⟨rfl,rfl,rfl⟩ _ a;apply cq;refine rpG ?_;refine done a ?_;rw [mu (fun x=>!cz x) xs,Ns];rfl
 ·rw [aS (show ¬ (xs.length:Int)<=20 by omega),aS f];refine rpG ?_;exact done a rfl
theorem BN {xs:List T} {S:ae} {v:Value} (h:RdSl S 4 (RdT S) v xs):ll Ka [v] S (.bool (eJ xs)):=by
 intro w a;apply uh.2;dsimp only[uh,aR];refine Run.callPure tK tQ a (pU h) fun w' a=>done a rfl
end
section
open Go Go.RowKit

def RowRd (S:ae) (v:Value) (e:TypeId) (k n:Nat) (xs:List Value):Prop:=
 xs.length=n * k/\((v=hV/\n=0) ∨ ∃ g cap cur,v=eF g 0 n cap/\S g=some (.cells cur e)/\n<=cap/\cap<=maxLen/\cur.size=cap * k/\cur.toList.take (n * k)=xs)
theorem Inv.lend {w0 w:World} {X:List Nat} {A:List Item} {S:ae} {v:Value} {e:TypeId} {k n:Nat} {xs:hZ} (h:Inv w0 X (A++[.row v e k n xs]) S w) :
  ∃ S',Sle S S'/\RowRd S' v e k n xs/\Inv w0 X A S' w/\∀ B w',Inv w0 X B S' w'->Inv w0 X (B++[.row v e k n xs]) S w':=by
 have M:w.ownsRow 0 e k v n xs:=h.its (.row v e k n xs) (by simp);obtain ⟨hl,M⟩:=M;rcases M with ⟨rfl,rfl⟩|⟨g,cap,i,rfl,_,hg,t,D,G,O⟩
 ·have:xs=[]:=iy (by rw [hl,sz]);subst this;exact ⟨S,Sle.refl S,⟨hl,.inl ⟨rfl,rfl⟩⟩,h.sub (eh _ _),fun B w' j=>j.rowNil e k⟩
 ·have hf:bS (A++[Item.blk g (.cells i e)])=bS (A++[Item.row (eF g 0 n cap) e k n xs]):=by
   simp [bS,Item.foot,Value.ownBlock]
  have m:g∈bS (A++[Item.row (eF g 0 n cap) e k n xs]):=by simp [bS,Item.foot,Value.ownBlock]
  have Z:Inv w0 X (A++[Item.blk g (.cells i e)]) S w:=by
   refine ⟨h.size,h.os,h.tape,h.output,h.old,fun it hit=>?_,by rw [hf];exact h.nd,by rw [hf];exact h.new,by rw [hf];exact h.pub⟩;rcases ci.1 hit with hit|hit
   ·exact h.its it (dO _ hit)
   ·simp at hit;subst hit;exact hg
  obtain ⟨V,Y⟩:=Z.publishLast;refine ⟨sq S g (.cells i e),Y,⟨hl,.inr ⟨g,cap,i,rfl,by simp [sq],t,D,G,O⟩⟩,V,fun B w' j=>?_⟩;have q:=j.pub g (.cells i e) (by simp [sq]);have l:bS (B++[Item.row (eF g 0 n cap) e k n xs])=bS B++[g]:=by simp [bS,Item.foot,Value.ownBlock]
  refine ⟨j.size,j.os,j.tape,j.output,j.old,fun it hit=>?_,?_,?_,?_⟩
  ·rcases ci.1 hit with hit|hit
   ·exact j.its it hit
   ·simp at hit;subst hit;exact ⟨hl,.inr ⟨g,cap,i,rfl,bf _,q.1,t,D,G,O⟩⟩
  ·rw [l,qF];refine ⟨j.nd,by simp,fun a U b N=>?_⟩;simp at N;subst N;intro J;subst J;exact q.2 U
  ·intro c hc;rw [l] at hc;rcases ci.1 hc with hc|hc
   ·exact j.new c hc
   ·simp at hc;subst hc;exact h.new _ m
  ·intro c o hc;have r:c≠g:=fun J=>by
    subst J;exact (h.pub c o hc).2 m
   have:=j.pub c o (by simp only [sq];rw [af r];exact hc);refine ⟨this.1,?_⟩;rw [l];intro f;rcases ci.1 f with f|f
   ·exact this.2 f
   ·simp at f;exact r f
theorem V3 {α:Type} (f:α->hZ) (k:Nat) (hf:∀ y,(f y).length=k):∀ (ys:List α) (i:Nat) (h:i<ys.length),((ys.flatMap f).drop (i * k)).take k=f ys[i]
 | [],i,h=>by simp at h
 | y::ys,0,h=>by
  rw [Iw,sz,yE,Uc (by rw [hf];exact be _),Ie (by rw [hf];exact be _)];rfl
 | y::ys,i+1,h=>by
  rw [Iw,mi,vR,<- Wm,List.drop_left' (hf y)];exact V3 f k hf ys i (by simpa using h)
theorem RowRd.rd {α:Type} {S:ae} {v:Value} {e:TypeId} {k:Nat} {f:α->hZ} {R:hZ->α->Prop} {ys:List α} (hf:∀ y,(f y).length=k) (hR:∀ y∈ys,R (f y) y)
  (h:RowRd S v e k ys.length (ys.flatMap f)):RdSl S k R v ys:=by
 obtain ⟨hl,h⟩:=h;rcases h with ⟨rfl,q⟩|⟨g,cap,j,rfl,r,l,m,t,B⟩
 ·have:ys=[]:=iy q;subst this;exact ⟨none,0,rfl,be _,bf _,.inl rfl⟩
 ·refine ⟨_,cap,rfl,l,m,.inr ⟨g,0,j,e,(0,0),rfl,r,fun i a=>?_⟩⟩;have:=V3 f k hf ys i a;have o:i * k+k<=ys.length * k:=by rw [<- mi];exact jw k a
  rw [<- B,EX,lW,kJ (by omega)] at this;rw [aO,dr,this];exact hR _ (bJ a)

def ints (ns:List Int):List Value:=ns.flatMap fun n=>[ax n]
abbrev dI (v:Value) (ns:List Int):Item:=.row v cR 1 ns.length (ints ns)
theorem sd (ns:List Int) (n:Int):ints ns++[ax n]=ints (ns++[n]):=by simp [ints]
theorem RowRd.ints {S:ae} {v:Value} {e:TypeId} {ns:List Int} (h:RowRd S v e 1 ns.length (ints ns)):RdSl S 1 gW v ns:=
 RowRd.rd (f:=fun n=>[Value.int .i64 n]) (fun _=>rfl) (fun _ _=>rfl) h
def K5 (l:List Int) (n:Int):Bool:=l.any fun x=>decide (n=x)
def nu (l:List Int) (n:Int):List Int:=if K5 l n=true then l else l++[n]
theorem Oj (l:List Int) (n:Int):(nu l n).length<=l.length+1:=by
 unfold nu;split <;> simp

theorem ug (s:Int) {xs:List Int} {S:ae} {v:Value} (h:RdSl S 1 gW v xs) :
  ll KM [v,ax s] S (ax (df (σ:=Unit) (fun _ x=>(decide (s=x),())) () xs 0).1):=by
 intro w g;have j:=h.le;simp only [maxLen] at j;refine uV.2 ?_;dsimp only[uV,bl];refine aI h cU ?_;refine ⟨fun i w'=>∃ k:Nat,k<=xs.length/\i=ax k/\df (σ:=Unit) (fun _ x=>(decide (s=x),())) () (xs.drop k) k=df (σ:=Unit) (fun _ x=>(decide (s=x),())) () xs 0/\Inv w [] [] S w',
  fun i _=>xs.length - (intOf i).toNat,⟨0,bf _,rfl,rfl,g⟩,?_⟩
 intro q _ _ _ _ _ _ _ _ _ _ _ _ w';rintro ⟨k,hk,rfl,a,g⟩;refine bM (aJ (fun l=>?_) (fun l=>?_))
 ·have f:k<xs.length:=by omega
  rw [dB f,df] at a;refine gj g h cU aw f (fun cs m=>m) (bn ?_);refine aJ (fun o=>done g ?_) (fun o=>?_)
  ·rw [<- a,ai (by simpa using o)]
  ·refine bA (by omega) ?_;rw [af (by simpa using o)] at a;exact ⟨⟨k+1,f,rfl,a,g⟩,by simp [intOf];omega⟩
 ·have:k=xs.length:=by omega
  subst this;rw [dY,df] at a;exact done g (by rw [<- a])
theorem zy (s:Int) {xs:List Int} {S:ae} {v:Value} (h:RdSl S 1 gW v xs):ll DJ [v,ax s] S (.bool (K5 xs s)):=by
 intro w a;apply p5.2;dsimp only[p5,bl];refine Run.callPure vI vQ a (ug s h) fun w' a=>?_;refine iS (done a ?_);rw [(l5 _ xs () 0).1,mu];rfl
end
end Go.Proofs.YtellfcpffcipcaaGreatDoor
