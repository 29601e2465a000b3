/- Proofs that are valid, on both sides. -/
import Derived.Test.YtellfcpffcipcaaGreatDoorZCkA
import Derived.Test.YtellfcpffcipcaaGreatDoorZCk18
namespace Go.Proofs.YtellfcpffcipcaaGreatDoor
attribute [local irreducible] Run CondV aF aT
section
open Go Go.RowKit
section
theorem zr {σ:Type} {f:FuncId} {fn:Func} {cap:hZ} {S:ae} {It:σ->List Item} {ok:σ->Prop} {step:σ->PF->Bool × σ} {xs:List PF} {v:Value}
  (l:Cb Tryz.prog f fn cap S It ok step (fun v x=>∃ cs,v=.agg cs.toArray/\RdF S cs x) xs) (h:RdSl S 6 (RdF S) v xs) {st:σ} (D:ok st) :
  kt xU [v,fv f cap] (It st) S fun r I' S'=>r=ax (df step st xs 0).1/\I'=It (df step st xs 0).2/\S'=S:=by
 intro w o;have t:=h.le;simp only [maxLen] at t;refine nn.2 ?_;dsimp only[nn,bl];refine aI h cK ?_;refine ⟨fun i w'=>∃ (k:Nat) (g:σ),k<=xs.length/\i=ax k/\ok g/\df step g (xs.drop k) k=df step st xs 0/\Inv w (bS (It st)) (It g) S w',fun i _=>xs.length - (intOf i).toNat,
  ⟨0,st,bf _,rfl,D,rfl,o⟩,?_⟩
 intro N _ _ _ _ _ _ _ _ _ _ _ _ w';rintro ⟨k,g,hk,rfl,q,j,o⟩;refine bM (aJ (fun G=>?_) (fun G=>?_))
 ·have m:k<xs.length:=by omega
  have M:=bJ m;have a:df step g (xs.drop k) k=if (step g xs[k]).1 then ((k:Int),(step g xs[k]).2) else df step (step g xs[k]).2 (xs.drop (k+1)) (k+1):=by
   rw [dB m,df]
  refine cL o h cK bp m (fun _ _=>RdF.length) fun cs J=>?_;refine Run.callV (A:=[]) (args:=[.agg cs.toArray]) l.hf l.hn (by simpa using o) (l.call g _ _ M q ⟨cs,rfl,J⟩) fun O I' S' w'=>?_;rintro ⟨rfl,rfl,rfl⟩ _ o;refine aE (fun B=>?_) (fun B=>?_)
  ·rw [ai B] at a;refine ⟨_,_,_,rfl,by simpa using o,Ext.refl _ _ _,?_,?_,rfl⟩
   ·rw [<- j,a]
   ·rw [<- j,a]
  ·refine bA (by omega) ?_;rw [B] at a;refine ⟨⟨k+1,_,m,rfl,l.keep g _ M q B,?_,by simpa using o⟩,by simp [intOf];omega⟩;rw [<- j,a];rfl
 ·have:k=xs.length:=by omega
  subst this;rw [dY,df] at j;exact ⟨_,_,_,rfl,o,Ext.refl _ _ _,by rw [<- j],by rw [<- j],rfl⟩
theorem uG {σ:Type} {f:FuncId} {fn:Func} {cap:hZ} {S:ae} {It:σ->List Item} {ok:σ->Prop} {step:σ->PF->Bool × σ} {xs:List PF} {v:Value}
  (a:Cb Tryz.prog f fn cap S It ok step (fun v x=>∃ cs,v=.agg cs.toArray/\RdF S cs x) xs) (h:RdSl S 6 (RdF S) v xs) {st:σ} (g:ok st) :
  kt sS [v,fv f cap] (It st) S fun r I' S'=>r=.bool (pG step st xs).1/\I'=It (pG step st xs).2/\S'=S:=by
 intro w i;apply kV.2;dsimp only[kV,bl];refine Run.call (A:=[]) u3 wO (by simpa using i) (zr a h g) fun l I' S' w'=>?_;rintro ⟨rfl,rfl,rfl⟩ _ i;apply iS;have j:=l5 step xs st 0;exact ⟨_,_,_,rfl,by simpa using i,Ext.refl _ _ _,by rw [j.1],by rw [j.2],rfl⟩
end
def Fg (g:T) (c:Int) (l:Nat):Bool:=fi g && ((decide (-1<=c) && decide (c<=19)) && decide (l<=6))
mutual
def i7:PF->Int->Int->Bool × Int
 | .mk g c ks,deep,n=>if 60<n+1 ∨ 20<deep then (false,n+1) else if Fg g c ks.length=true then kN ks (deep+1) (n+1) else (false,n+1)
def kN:List PF->Int->Int->Bool × Int
 | [],_,n=>(true,n)
 | t::ts,deep,n=>if (i7 t deep n).1 then kN ts deep (i7 t deep n).2 else (false,(i7 t deep n).2)
end
mutual
def uC:PF->Int->Bool
 | .mk g c ks,d=>decide (1<=d) && (Fg g c ks.length && yI ks (d - 1))
def yI:List PF->Int->Bool
 | [],_=>true
 | t::ts,d=>uC t d && yI ts d
end
mutual
def qT:PF->Int
 | .mk _ _ ks=>1+j0 ks
def j0:List PF->Int
 | []=>0
 | t::ts=>qT t+j0 ts
end
def kG (x:PF):Bool:=uC x 20 && decide (qT x<=60)
mutual
theorem Ip:∀ t:PF,1<=qT t
 | .mk _ _ ks=>by
  have:=ry ks;rw [qT]; omega
theorem ry:∀ ts:List PF,0<=j0 ts
 | []=>H1 _
 | t::ts=>by
  have a:=Ip t;have f:=ry ts;rw [j0]; omega
end
mutual
theorem Ja:∀ (t:PF) (a n:Int),(i7 t a n).1=(uC t (21 - a) && decide (n+qT t<=60))/\((i7 t a n).1=true->(i7 t a n).2=n+qT t)
 | .mk g c ks,a,n=>by
  have hl:=ry ks;rw [i7,uC,qT];by_cases f:60<n+1 ∨ 20<a
  ·rw [ai f];refine ⟨?_,fun h=>by cases h⟩;rcases f with f|f
   ·rw [aS (show ¬ (n+(1+j0 ks)<=60) by omega),m5]
   ·rw [aS (show ¬ (1<=21 - a) by omega)]; rfl
  ·rw [af f,aL (show 1<=21 - a by omega),dz];cases hn:Fg g c ks.length with
   | false=>exact ⟨rfl,fun h=>by cases h⟩
   | true=>
    rw [ai rfl,dz];have:=Mn ks (a+1) (n+1);rw [show 21 - (a+1)=21 - a - 1 by omega] at this;rw [show n+(1+j0 ks)=n+1+j0 ks by omega];refine ⟨?_,this.2⟩;rw [this.1];cases ks with
    | nil=>rw [show j0 []=0 from rfl,aL (show n+1+0<=60 by omega)]; rfl
    | cons t ts=>simp
theorem Mn:∀ (ts:List PF) (a n:Int),(kN ts a n).1=(yI ts (21 - a) && (ts.isEmpty || decide (n+j0 ts<=60)))/\((kN ts a n).1=true->(kN ts a n).2=n+j0 ts)
 | [],a,n=>by simp [kN,yI,j0]
 | t::ts,a,n=>by
  have f:=Ja t a n;have m:=ry ts;rw [kN,yI,j0,List.isEmpty_cons,ib];cases j:(i7 t a n).1 with
  | false=>
   rw [j] at f;have g:=f.1;refine ⟨?_,fun h=>by cases h⟩;simp only [H2,if_false];cases i:uC t (21 - a) with
   | false=>rfl
   | true=>
    rw [i,dz] at g;have:¬ (n+qT t<=60):=of_decide_eq_false g.symm;rw [aS (show ¬ (n+(qT t+j0 ts)<=60) by omega),m5]
  | true=>
   rw [j] at f;have g:=f.1;have l:=f.2 rfl;simp only [if_true];rw [l];have i:uC t (21 - a)=true/\n+qT t<=60:=by
    have:=g.symm;simpa using this
   have hl:=Mn ts a (n+qT t);rw [show n+(qT t+j0 ts)=n+qT t+j0 ts by omega];refine ⟨?_,hl.2⟩;rw [hl.1,i.1,dz];cases ts with
   | nil=>rw [show j0 []=0 from rfl,aL (show n+qT t+0<=60 by omega)]; rfl
   | cons u us=>simp
end
theorem Q9 (t:PF):(i7 t 1 0).1=kG t:=by
 rw [(Ja t 1 0).1,kG];simp
theorem RR:∀ (t:PF) (a n:Int),n<=60->(i7 t a n).1=true->n<(i7 t a n).2/\(i7 t a n).2<=60:=by
 intro t a n hn h;have:=Ja t a n;rw [this.2 h];have f:=this.1;rw [h] at f;have g:=f.symm;simp at g;have:=Ip t;omega
theorem Ii (a:Int):∀ (f:List PF) (n:Int),pG (fun n t=>(!(i7 t a n).1,(i7 t a n).2)) n f=(!(kN f a n).1,(kN f a n).2)
 | [],n=>by simp [pG,kN]
 | t::ts,n=>by
  by_cases h:(i7 t a n).1=true
  ·simp [pG,kN,h,Ii a ts]
  ·simp [pG,kN,h]
mutual
def yL:PF->Int->Int
 | .mk _ _ ks,m=>ml ks 1 m
def ml:List PF->Int->Int->Int
 | [],n,_=>n
 | t::ts,n,m=>if n<=m then ml ts (n+yL t (m - n)) m else n
end
mutual
theorem II:∀ (t:PF) (m:Int),0<=m->1<=yL t m/\yL t m<=m+1/\(qT t<=m->yL t m=qT t)/\(m<qT t->m<yL t m)
 | .mk g c ks,m,hm=>by
  have h:=MM ks 1 m hm (by omega) (by omega);rw [yL,qT];exact h
theorem MM:∀ (ts:List PF) (n m:Int),0<=m->1<=n->n<=m+1->1<=ml ts n m/\ml ts n m<=m+1/\(n+j0 ts<=m->ml ts n m=n+j0 ts)/\(m<n+j0 ts->m<ml ts n m)
 | [],n,m,hm,hn,hn2=>by rw [ml,j0]; omega
 | t::ts,n,m,hm,hn,hn2=>by
  have B:=ry ts;have o:=Ip t;rw [ml,j0];split
  ·rename_i g
   obtain ⟨q,r,a,i⟩:=II t (m - n) (by omega);obtain ⟨j,g2,l,f⟩:=MM ts (n+yL t (m - n)) m hm (by omega) (by omega);refine ⟨j,g2,fun h=>?_,fun h=>?_⟩
   ·have:=a (by omega);rw [l (by omega)];omega
   ·by_cases hc:qT t<=m - n
    ·have:=a hc;exact f (by omega)
    ·have:=i (by omega);exact f (by omega)
  ·omega
end
theorem Zg (t:PF):decide (yL t 60<=60)=decide (qT t<=60):=by
 obtain ⟨_,_,f,g⟩:=II t 60 (by omega);rw [dJ];constructor
 ·intro h;rcases Int.lt_or_le 60 (qT t) with a|a
  ·have:=g a;omega
  ·exact a
 ·intro h;rw [f h];exact h
section
theorem Gu:∀ (t:PF) (S:ae) (cs:hZ) (a n:Int) (i:Nat),RdF S cs t->0<=a->a<=21->0<=n->n<=60->
  kt KO [.agg cs.toArray,ax a,ee i] [il i n] S (sf i S (i7 t a n)):=by
 refine PF.ind fun g c l ih S cs a n i h a3 a4 a5 a6=>?_;intro w f;obtain ⟨kv,Y,rfl,hg,hc,J⟩:=RdF.iff.1 h;simp only [PF.goal,PF.kids,PF.clause] at hg hc J ⊢;have D:∀ {L:List Item} {w':World} {v:Value} (r:Bool × Int),Inv w (bS [il i n]) (il i r.2::L) S w'->v=.bool r.1->r=i7 (.mk g c l) a n->
   ∃ V I' S',Ending.returned v=.returned V/\Inv w (bS [il i n]) I' S' w'/\Ext w.heap.size (bS [il i n]) S S'/\sf i S (i7 (.mk g c l) a n) V I' S':=by
  intro L w' v r j N h3;subst h3;exact ⟨_,_,_,rfl,j.pick [true],Ext.refl _ _ _,N,rfl,rfl⟩
 apply wu.2;dsimp only[wu,dR];refine bq f fun U w' f=>?_;refine bq f fun o w' f=>?_;refine bq f fun B w' f=>?_;refine aD f 3 wS rfl rfl (aH (aD f 0 aw rfl rfl (bA (by omega) (aH (dD f 0 (n:=1) rfl (by rw [aw];rfl) rfl (l9 rfl) (by simp [Value.cells];rfl) fun w' f=>?_)))));have f:Inv w (bS [il i n]) [il i (n+1),ay U #[ax g.kind,ax g.n,.string g.name,kv,ax c,Y] ar,ay o #[ax a] cR,ay B #[ee i] jN] S w':=f;have Z:decide ((6:Int)<(l.length:Int))=!decide (l.length<=6):=by
  rw [<- decide_not,dJ];omega
 refine ⟨fun t w'=>t=.bool (decide (60<n+1 ∨ 20<a) || !Fg g c l.length)/\Inv w (bS [il i n]) [il i (n+1),ay U #[ax g.kind,ax g.n,.string g.name,kv,ax c,Y] ar,ay o #[ax a] cR,ay B #[ee i] jN] S w',?_,?_⟩
 ·refine aD f 3 wS rfl rfl (aH (aD f 0 aw rfl rfl (ew ?_)));cases j:decide ((60:Int)<n+1)
  ·have j:=of_decide_eq_false j;refine rpG ?_;refine aD f 2 aw rfl rfl (ew ?_);cases N:decide ((20:Int)<a)
   ·have N:=of_decide_eq_false N;rw [aS (fun h=>h.elim j N),ib,Fg];refine rpG ?_;refine ah dE (cP f 1 [_,_,_,_] ac rfl rfl wg (Run.callPure wM vt f (rT hg) fun w' f=>?_));apply cq;cases h3:fi g
    ·refine rpG ?_;exact ⟨rfl,f⟩
    refine rpG ?_;refine ad f 1 rfl dF aw rfl (Run.callPure iA iv f (gK _ _ _ S) fun w' f=>?_);apply cq;cases h4:(decide (-1<=c) && decide (c<=19))
    ·refine rpG ?_;exact ⟨rfl,f⟩
    refine rpG ?_;refine ad f 1 rfl bH bT rfl (aI J cK (ew ?_));rw [Z];refine rpG ?_;exact ⟨rfl,f⟩
   ·refine rpG ?_;rw [aL (.inr (of_decide_eq_true N)),py];exact ⟨rfl,f⟩
  ·refine rpG ?_;rw [aL (.inl (of_decide_eq_true j)),py];exact ⟨rfl,f⟩
 intro q;(iterate 25 intro);intro w';rintro ⟨rfl,f⟩;refine aE (fun G=>?_) (fun G=>?_)
 ·refine D (false,n+1) f rfl ?_;rw [i7];by_cases j:60<n+1 ∨ 20<a
  ·rw [ai j]
  ·rw [aS j,ib,lg] at G;rw [af j,G];rfl
 ·rw [Hy,rW] at G;have a0:i7 (.mk g c l) a n=kN l (a+1) (n+1):=by
   rw [i7,af (of_decide_eq_false G.1),ai G.2]
  have a2:=of_decide_eq_false G.1;refine ad f 1 rfl bH bT rfl (md ?_);have a1:Cb Tryz.prog Gy Tryz.f76 [ee o,ee B] S
    (fun c:Int=>[il i c,ay o #[ax a] cR,ay B #[ee i] jN]) (fun c=>0<=c/\c<=60)
    (fun c t=>(!(i7 t (a+1) c).1,(i7 t (a+1) c).2)) (fun v x=>∃ cs,v=.agg cs.toArray/\RdF S cs x) l:=by
   refine ⟨Eu,Em,fun st x _ m hf=>?_,fun st x v hx m=>?_⟩
   ·have:=RR x (a+1) st m.2 (by simpa using hf);omega
   ·rintro ⟨cs,rfl,O⟩ w1 f;have hl:=O.length;apply rO.2;dsimp only[rO,dR];refine bq f fun b w' f=>?_;refine av f 3 bp rfl (by simpa [Value.cells] using hl) (aD f 1 aw rfl rfl (bA (by omega) (aD f 2 wS rfl rfl ?_)));have f:=f.perm (M:=[ay o #[ax a] cR,ay B #[ee i] jN,ay b (Value.agg cs.toArray).cells ar]++[il i st])
     (cT (l₁:=[_,_,_]) (l₂:=[il i st]))
    refine Run.call uH vN f (ih x hx S cs (a+1) st i O (by omega) (by omega) m.1 m.2) fun V I' S' w'=>?_;rintro ⟨rfl,rfl,rfl⟩ _ f;refine cq ?_;have f:=(f.perm (M:=[il i (i7 x (a+1) st).2]++[ay o #[ax a] cR,ay B #[ee i] jN,ay b (Value.agg cs.toArray).cells ar])
     cT).pick [true,true,true,false]
    exact ⟨_,_,_,rfl,f,Ext.refl _ _ _,rfl,rfl,rfl⟩
  have f:=f.perm (M:=[ay U #[ax g.kind,ax g.n,.string g.name,kv,ax c,Y] ar]++[il i (n+1),ay o #[ax a] cR,ay B #[ee i] jN]) (List.Perm.swap _ _ _);refine Run.call rg rZ f (uG a1 J ⟨by omega,by omega⟩) fun V I' S' w'=>?_;rintro ⟨rfl,rfl,rfl⟩ _ f;apply cq;rw [Ii] at f ⊢;have f:=f.perm (M:=[il i (kN l (a+1) (n+1)).2,ay U #[ax g.kind,ax g.n,.string g.name,kv,ax c,Y] ar,ay o #[ax a] cR,ay B #[ee i] jN]) (List.Perm.swap _ _ _);exact D (kN l (a+1) (n+1)) f (by simp) a0.symm
theorem Cg {t:PF} {S:ae} {cs:hZ} (h:RdF S cs t):ll HC [.agg cs.toArray] S (.bool (kG t)):=by
 intro w a;have hl:=h.length;apply tP.2;dsimp only[tP,aR];refine bq a fun g w' a=>?_;refine aG a UP fun f w' a=>?_;refine dD a 1 (n:=1) rfl (by rw [aw];rfl) rfl (l9 rfl) (by simp [Value.cells];rfl) fun w' a=>?_;refine av a 0 bp rfl (by simpa [Value.cells] using hl) (Run.call (A:=[_]) (I:=[il f 0]) uH vN a (Gu t S cs 1 0 f h (by omega) (by omega) (by omega) (by omega)) fun i I' S' w'=>?_);rintro ⟨rfl,rfl,rfl⟩ _ a;exact done a (by rw [Q9])
theorem Jd:∀ (t:PF) (S:ae) (cs:hZ) (d:Int),RdF S cs t->wF t<=1048576->-100<=d->d<=100->ll NL [.agg cs.toArray,ax d] S (.bool (uC t d)):=by
 refine PF.ind fun g c l ih S cs d h hw a0 a1=>?_;intro w a;obtain ⟨kv,M,rfl,Z,hc,j⟩:=RdF.iff.1 h;simp only [PF.goal,PF.kids,PF.clause] at Z hc j ⊢;have B:=j.le;simp only [maxLen] at B;rw [wF] at hw;rw [uC];apply y9.2;dsimp only[y9,bl];refine bq a fun D w' a=>?_;have a:Inv w [] [ay D #[ax g.kind,ax g.n,.string g.name,kv,ax c,M] ar] S w':=a;have N:decide ((6:Int)<(l.length:Int))=!decide (l.length<=6):=by
  rw [<- decide_not,dJ];omega
 have O:decide (c < -1)=!decide (-1<=c):=by rw [<- decide_not,dJ];omega
 have U:decide ((20:Int)<=c)=!decide (c<=19):=by rw [<- decide_not,dJ];omega
 have V:decide (d<1)=!decide (1<=d):=by rw [<- decide_not,dJ];omega
 refine ⟨fun t w'=>t=.bool (!(decide (1<=d) && Fg g c l.length))/\Inv w [] [ay D #[ax g.kind,ax g.n,.string g.name,kv,ax c,M] ar] S w',?_,?_⟩
 ·apply bM;rw [V,Fg];cases h1:decide (1<=d)
  ·refine rpG ?_;exact ⟨rfl,a⟩
  refine rpG ?_;refine ah dE (cP a 0 [_,_,_,_] ac rfl rfl wg (Run.callPure oX pz a (l4 Z (by omega)) fun w' a=>?_));apply cq;cases h3:fi g
  ·refine rpG ?_;exact ⟨rfl,a⟩
  refine rpG ?_;refine ad a 0 rfl dF aw rfl (bM ?_);rw [O];cases h4:decide (-1<=c)
  ·refine rpG ?_;exact ⟨rfl,a⟩
  refine rpG ?_;refine ad a 0 rfl dF aw rfl (iS ?_);rw [U];cases h5:decide (c<=19)
  ·refine rpG ?_;exact ⟨rfl,a⟩
  refine rpG ?_;refine ad a 0 rfl bH bT rfl (aI j cK (ew ?_));rw [N];refine rpG ?_;exact ⟨rfl,a⟩
 intro q;(iterate 23 intro);intro w';rintro ⟨rfl,a⟩;refine aE (fun o=>done a ?_) (fun o=>?_)
 ·rw [lg] at o;rw [<- Zo,o];rfl
 rw [rW,aZ] at o;rw [o.1,o.2,dz,dz];refine ⟨fun i w'=>∃ k:Nat,k<=l.length/\i=ax k/\yI (l.drop k) (d - 1)=yI l (d - 1)/\Inv w [] [ay D #[ax g.kind,ax g.n,.string g.name,kv,ax c,M] ar] S w',
  fun i _=>l.length - (intOf i).toNat,⟨0,bf _,rfl,rfl,a⟩,?_⟩
 intro i;(iterate 17 intro);intro w';rintro ⟨k,hk,rfl,f,a⟩;refine ad a 0 rfl bH bT rfl (aI j cK (bM (aJ (fun G=>?_) (fun G=>?_))))
 ·have m:k<l.length:=by omega
  have hm:=bJ m;have a2:=Hh hm;rw [dB m,yI] at f;refine ad a 0 rfl bH bT rfl (cL a j cK bp m (fun _ _=>RdF.length) fun ds J=>?_);refine je (by omega) ?_;have a3:1<=d:=of_decide_eq_true o.1;refine Run.callPure zg yY a (ih _ hm S ds (d - 1) J (by omega) (by omega) (by omega)) fun w' a=>?_;apply cq;refine aE (fun r=>done a ?_) (fun Y=>?_)
  ·rw [lg] at r;rw [<- f,r];rfl
  ·rw [rW] at Y;rw [Y,dz] at f;refine bA (by omega) ?_;exact ⟨⟨k+1,m,rfl,f,a⟩,by simp [intOf];omega⟩
 ·have:k=l.length:=by omega
  subst this;exact done a (by rw [<- f,dY];rfl)
theorem Lk:∀ (t:PF) (S:ae) (cs:hZ) (m:Int),RdF S cs t->0<=m->m<=1000000->ll Rc [.agg cs.toArray,ax m] S (ax (yL t m)):=by
 refine PF.ind fun g c l U S cs m h V Y=>?_;intro w a;obtain ⟨kv,J,rfl,Z,hc,o⟩:=RdF.iff.1 h;simp only [PF.goal,PF.kids,PF.clause] at Z hc o ⊢;have B:=o.le;simp only [maxLen] at B;rw [yL];refine Cs.2 ?_;dsimp only[Cs,bl];refine bq a fun D w' a=>?_;have a:Inv w [] [ay D #[ax g.kind,ax g.n,.string g.name,kv,ax c,J] ar] S w':=a;refine ⟨fun i t w'=>∃ (k:Nat) (n:Int),k<=l.length/\i=ax k/\t=ax n/\1<=n/\n<=m+1/\ml (l.drop k) n m=ml l 1 m/\Inv w [] [ay D #[ax g.kind,ax g.n,.string g.name,kv,ax c,J] ar] S w',
  fun i _ _=>l.length - (intOf i).toNat,⟨0,1,bf _,rfl,rfl,by omega,by omega,rfl,a⟩,?_⟩
 intro i _ _ t;(iterate 21 intro);intro w';rintro ⟨k,n,hk,rfl,rfl,N,O,j,a⟩;refine ⟨fun q w'=>q=.bool (decide (k<l.length) && decide (n<=m))/\Inv w [] [ay D #[ax g.kind,ax g.n,.string g.name,kv,ax c,J] ar] S w',?_,?_⟩
 ·refine ad a 0 rfl bH bT rfl (aI o cK (bM ?_));have el:decide ((k:Int)<(l.length:Int))=decide (k<l.length):=by rw [dJ];omega
  rw [el];cases h1:decide (k<l.length)
  ·refine rpG ?_;exact ⟨rfl,a⟩
  refine rpG ?_;apply gJ;refine rpG ?_;exact ⟨rfl,a⟩
 intro q _ _ _ _ _ _ _ _ _ w';rintro ⟨rfl,a⟩;refine aE (fun r=>?_) (fun r=>?_)
 ·rw [aZ,bt,bt] at r;obtain ⟨f,M⟩:=r;have hm:=bJ f;rw [dB f,ml,ai M] at j;obtain ⟨s1,s2,_,_⟩:=II l[k] (m - n) (by omega);refine ad a 0 rfl bH bT rfl (cL a o cK bp f (fun _ _=>RdF.length) fun ds G=>?_);refine je (by omega) (Run.callPure Bp BH a (U _ hm S ds (m - n) G (by omega) (by omega)) fun w' a=>?_);refine bA (by omega) (bA (by omega) ?_);exact ⟨⟨k+1,_,f,rfl,rfl,by omega,by omega,j,a⟩,by simp [intOf];omega⟩
 ·refine done a ?_;rw [<- j];by_cases f:k<l.length
  ·rw [aL f,dz] at r;rw [dB f,ml,af (of_decide_eq_false r)]
  ·have:k=l.length:=by omega
   subst this;rw [dY,ml]
theorem pX {t:PF} {S:ae} {cs:hZ} (h:RdF S cs t) (f:wF t<=1048576):ll HB [.agg cs.toArray] S (.bool (kG t)):=by
 intro w a;have hl:=h.length;apply ux.2;dsimp only[ux,aR];refine bq a fun g w' a=>?_;refine av a 0 bp rfl (by simpa [Value.cells] using hl) (Run.callPure zg yY a (Jd t S cs 20 h f (by omega) (by omega)) fun w' a=>?_);rw [kG];cases i:uC t 20
 ·refine rpG ?_;exact done a rfl
 refine rpG ?_;refine av a 0 bp rfl (by simpa [Value.cells] using hl) (Run.callPure Bp BH a (Lk t S cs 60 h (by omega) (by omega)) fun w' a=>?_);apply gJ;rw [Zg];refine rpG ?_;exact done a rfl
end
end
section
open Go Go.RowKit
section
variable {S:ae} {ys:List Nat} {v:Value}
end
end
section
open Go Go.RowKit

end
section
open Go Go.RowKit
mutual
def sbT (σ:Int->T):T->T
 | .mk k n s ks=>if k=1 then σ n else .mk k n s (sbL σ ks)
def sbL (σ:Int->T):List T->List T
 | []=>[]
 | t::ts=>sbT σ t::sbL σ ts
end
theorem p8 (σ:Int->T):∀ ts:List T,(sbL σ ts).length=ts.length
 | []=>rfl
 | t::ts=>by rw [sbL,bI,p8 σ ts,bI]
mutual
theorem Ro (σ τ:Int->T):∀ t:T,sbT σ (sbT τ t)=sbT (fun n=>sbT σ (τ n)) t
 | .mk k n s ks=>by
  by_cases hk:k=1
  ·rw [sbT,ai hk,sbT,ai hk]
  ·rw [sbT,af hk,sbT,af hk,sbT,af hk,P9 σ τ ks]
theorem P9 (σ τ:Int->T):∀ ts:List T,sbL σ (sbL τ ts)=sbL (fun n=>sbT σ (τ n)) ts
 | []=>rfl
 | t::ts=>by rw [sbL,sbL,sbL,Ro σ τ t,P9 σ τ ts]
end
def idS (n:Int):T:=.mk 1 n emptyB []
mutual
theorem NG {N:Nat}:∀ t:T,okU N t->sbT idS t=t
 | .mk k n s ks,h=>by
  rw [okU] at h;by_cases hk:k=1
  ·obtain ⟨_,_,rfl,rfl⟩:=h.2.1 hk;rw [sbT,ai hk,hk,idS]
  ·rw [sbT,af hk,ZK ks h.2.2.1]
theorem ZK {N:Nat}:∀ ts:List T,du N ts->sbL idS ts=ts
 | [],_=>rfl
 | t::ts,h=>by
  rw [du] at h;rw [sbL,NG t h.1,ZK ts h.2]
end
def Agk (σ:Int->T) (st:au):Prop:=∀ (i:Nat) (t:T),st[i]?=some (some t)->σ i=t
def Gek (st st':au):Prop:=st'.length=st.length/\∀ (i:Nat) (t:T),st[i]?=some (some t)->st'[i]?=some (some t)
theorem Gek.refl (st:au):Gek st st:=⟨rfl,fun _ _ h=>h⟩
theorem Gek.trans {a b c:au} (h:Gek a b) (f:Gek b c):Gek a c:=⟨f.1.trans h.1,fun i t g=>f.2 i t (h.2 i t g)⟩
theorem Agk.less {σ:Int->T} {a b:au} (h:Agk σ b) (f:Gek a b):Agk σ a:=fun i t g=>h i t (f.2 i t g)
theorem Sh {t u:T}:kK t u=true↔t.kind=u.kind/\t.n=u.n/\t.name=u.name/\t.kids.length=u.kids.length:=by
 simp [kK]
mutual
theorem rK:∀ (t u:T) (st:au),okV t->Gek st (cN t u st).2
 | .mk k n s ks,u,st,hv=>by
  rw [okV] at hv;rw [cN];by_cases hk:k=1
  ·rw [ai hk];split
   ·exact Gek.refl _
   ·rename_i a
    refine ⟨by simp,fun i t f=>?_⟩;rw [CT];split
    ·rename_i e
     subst e;exact absurd f (a t)
    ·exact f
  ·rw [af hk];split
   ·exact Df ks u.kids st hv.2
   ·exact Gek.refl _
theorem Df:∀ (ts us:List T) (st:au),n6 ts->Gek st (gx ts us st).2
 | [],_,st,_=>by rw [gx]; exact Gek.refl _
 | _::_,[],st,_=>by rw [gx]; exact Gek.refl _
 | t::ts,u::us,st,hv=>by
  rw [n6] at hv;rw [gx];split
  ·exact (rK t u st hv.1).trans (Df ts us _ hv.2)
  ·exact rK t u st hv.1
end
mutual
theorem s9 (σ:Int->T):∀ (t u:T) (st:au),okV t->st.length=26->(cN t u st).1=true->Agk σ (cN t u st).2->sbT σ t=u
 | .mk k n s ks,u,st,hv,hl,hm,ha=>by
  rw [okV] at hv;rw [cN] at hm ha;by_cases hk:k=1
  ·obtain ⟨j,h⟩:=hv.1 hk;rw [ai hk] at hm ha;rw [sbT,ai hk];split at hm
   ·rename_i f a
    rw [a] at ha;have:=ha n.toNat f a;rw [uW j] at this;rw [this];exact (VT _ _).1 hm
   ·rename_i g
    split at ha
    ·rename_i f a
     exact absurd a (g f)
    ·have:=ha n.toNat u (by rw [QP (by omega)])
     rwa [uW j] at this
  ·rw [af hk] at hm ha;rw [sbT,af hk];split at hm
   ·rename_i i
    rw [ai i] at ha;obtain ⟨h,l,m,o⟩:=Sh.1 i;have:=Am σ ks u.kids st hv.2 hl (Dh o) hm ha;rw [this];cases u;simp only [T.kind,T.n,T.name,T.kids] at h l m ⊢;rw [h,l,m]
    congr 1
    rw [Ie];simp only [T.kids] at o;omega
   ·cases hm
theorem Am (σ:Int->T):∀ (ts us:List T) (st:au),n6 ts->st.length=26->ts.length<=us.length->(gx ts us st).1=true->Agk σ (gx ts us st).2->sbL σ ts=us.take ts.length
 | [],us,st,_,_,_,_,_=>by rw [sbL]; rfl
 | t::ts,[],st,_,_,hlen,_,_=>by simp at hlen
 | t::ts,u::us,st,hv,hl,hlen,hm,ha=>by
  rw [n6] at hv;rw [gx] at hm ha;split at hm
  ·rename_i f
   rw [ai f] at ha;have g:=rK t u st hv.1;have a:=Df ts us (cN t u st).2 hv.2;rw [sbL,bI,tf,s9 σ t u st hv.1 hl f (ha.less a),Am σ ts us _ hv.2 (g.1.trans hl) (by simpa using hlen) hm ha]
  ·cases hm
end
def ofK (st:au) (n:Int):T:=match st[n.toNat]? with
 | some (some t)=>t
 | _=>idS n
theorem aa9 (st:au):Agk (ofK st) st:=fun i t h=>by rw [ofK,dq,h]
theorem Yl {c:C} (h:cz c=true):okV c.head/\n6 c.body:=⟨(xd h).1.1,(xd h).2.1⟩
end
section
open Go Go.RowKit
section
variable {S:ae} {ys zs:List Nat} {v u:Value}
theorem RdC.cells {S:ae} {cs:hZ} {c:C} (h:RdC S cs c):∃ kv a,cs=[ax c.head.kind,ax c.head.n,.string c.head.name,kv,a]/\RdT S [ax c.head.kind,ax c.head.n,.string c.head.name,kv] c.head/\RdSl S 4 (RdT S) a c.body:=by
 obtain ⟨hd,a,rfl,g,i⟩:=h;have f:=g;obtain ⟨kv,rfl,_⟩:=RdT.iff.1 g;exact ⟨kv,a,rfl,f,i⟩
end
end
section
open Go Go.RowKit
mutual
theorem MK:∀ (t:T) (d:Int),ik t d=true->okN t
 | .mk k n s ks,d,h=>by
  rw [ik] at h;split at h
  ·cases h
  rw [aZ] at h;obtain ⟨a,hk⟩:=h;rw [okN];refine ⟨fun e=>?_,Jl ks _ hk⟩;subst e;have f:fp (.mk 2 n s ks)=(decide (-999<=n) && (decide (n<=999) && (decide (s=emptyB) && decide (ks.length=0)))):=by
   rw [fp]; exact (af (show ¬ (2:Int)=1 by decide)).trans (ai rfl)
  rw [f,aZ,aZ] at a;exact ⟨of_decide_eq_true a.1,of_decide_eq_true a.2.1⟩
theorem Jl:∀ (ts:List T) (d:Int),ia ts d=true->Ew ts
 | [],_,_=>by rw [Ew]; trivial
 | t::ts,d,h=>by
  rw [ia,aZ] at h;rw [Ew];exact ⟨MK t d h.1,Jl ts d h.2⟩
end
theorem Mk {t:T} (h:dP t=true):okN t:=MK t 30 (uT h)
theorem lr {t:T} (h:dP t=true):wT t<=840:=by
 have a:=ie h;have f:=TP t a;rw [dP,aZ] at h;have g:ez t<=120:=by simpa using h.2
 omega
theorem eL {g:T} (h:fi g=true):dP g=true:=by
 rw [fi,aZ] at h;exact h.1
theorem LQ {g:T} (h:fi g=true):decide (g.kind=3)=true:=by
 rw [fi,aZ,jI,jI] at h;rcases h.2 with h|h|h
 ·rw [fC,aZ] at h;exact h.1
 ·rw [eI,aZ] at h;exact h.1
 ·rw [bW,aZ] at h;exact h.1
def bltF (g:T) (f:Bool):Prop:=(bW g=false/\f=false) ∨ (bW g=true/\∃ code st',Blt YO g code st'/\f=wo code st')
theorem bltF.ex {g:T} (h:dP g=true):∃ f,bltF g f:=by
 cases i:bW g with
 | false=>exact ⟨false,.inl ⟨i,rfl⟩⟩
 | true=>
  have:=lr h;obtain ⟨c,a,j⟩:=Blt.ex (mq 26) i ⟨ie h,by omega⟩;exact ⟨_,.inr ⟨i,c,a,j,rfl⟩⟩
open Classical in
noncomputable def bltV (g:T):Bool:=if h:∃ f,bltF g f then h.choose else false
theorem A4 {g:T} (h:dP g=true):bltF g (bltV g):=by
 have a:=bltF.ex h;rw [bltV,dif_pos a];exact a.choose_spec
def Cm:List T->List PF->au->Bool
 | g::gs,x::xs,st=>!fC g && ((cN g x.goal st).1 && Cm gs xs (cN g x.goal st).2)
 | _,_,_=>true
noncomputable def nodeC (p:List C) (g:T) (c:Int) (ks:List PF):Bool:=if c<0 then decide (ks.length=0) && bltV g else match p[c.toNat]? with
 | none=>false
 | some q=>decide (ks.length=q.body.length) && ((cN q.head g st0).1 && Cm q.body ks (cN q.head g st0).2)
mutual
noncomputable def chkF (p:List C):PF->Bool
 | .mk g c ks=>nodeC p g c ks && chkFL p ks
noncomputable def chkFL (p:List C):List PF->Bool
 | []=>true
 | x::xs=>chkF p x && chkFL p xs
end
noncomputable def interL (p:List C):List T->List PF->au->Bool
 | g::gs,x::xs,st=>!fC g && ((cN g x.goal st).1 && (chkF p x && interL p gs xs (cN g x.goal st).2))
 | _,_,_=>true
theorem Sc (p:List C):∀ (gs:List T) (xs:List PF) (st:au),gs.length=xs.length->interL p gs xs st=(Cm gs xs st && chkFL p xs)
 | [],[],_,_=>rfl
 | g::gs,x::xs,st,h=>by
  rw [interL,Cm,chkFL,Sc p gs xs _ (by simpa using h)];cases fC g <;> cases (cN g x.goal st).1 <;> cases chkF p x <;> simp
 | [],_::_,_,h=>by simp at h
 | _::_,[],_,h=>by simp at h
theorem Mz:∀ {ts:List PF} {d:Int},yI ts d=true->∀ x∈ts,uC x d=true
 | t::ts,d,h,x,a=>by
  rw [yI,aZ] at h;rcases cw.1 a with rfl|a
  ·exact h.1
  ·exact Mz h.2 x a
theorem oo {g:T} {c:Int} {a:List PF} {d:Int} (h:uC (.mk g c a) d=true):fi g=true/\(-1<=c/\c<=19)/\∀ x∈a,uC x (d - 1)=true:=by
 rw [uC,aZ,aZ,Fg,aZ,aZ,aZ,bt,bt,bt,bt] at h;obtain ⟨_,⟨f,⟨i,j⟩,_⟩,l⟩:=h;exact ⟨f,⟨i,j⟩,Mz l⟩
theorem uI {p:List C} (h:dZ p=true) {c:C} (hc:c∈p):cz c=true:=by
 rw [dZ,aZ,eX] at h;exact h.2 c hc
theorem Vl {a b c d e f:Value}:∀ (j:Nat) (v:Value),([a,b,c,d]:hZ)[j]?=some v->([a,b,c,d,e,f]:hZ)[j]?=some v
 | 0,_,h|1,_,h|2,_,h|3,_,h=>h
 | j+4,_,h=>by simp at h
section
theorem Dx {g:T} (j:dP g=true) (o:bW g=true) {S:ae} {cs:hZ} (h:RdT S cs g):ll Nj [.agg cs.toArray] S (.bool (bltV g)):=by
 intro w f;have hl:=h.length;have G:=lr j;obtain ⟨code,i,r,hf⟩:∃ code i,Blt YO g code i/\bltV g=wo code i:=by
  rcases A4 j with ⟨l,_⟩|⟨_,l⟩
  ·rw [o] at l;cases l
  ·exact l
 apply yk.2;dsimp only[yk,aR];refine bq f fun B w' f=>?_;refine av f 0 ac rfl (by simpa [Value.cells] using hl) ?_;refine Run.call0E DF D7 f (xS j o ⟨ie j,by omega⟩ (Mk j) r h) fun D I' S1 w'=>?_;rintro ⟨a,n,cap,c,rfl,m⟩ q f;refine al (v:=.slice a n cap) rfl (al (v:=ax c) rfl (bn ?_));rw [hf,<- m];cases hc:decide (c=0)
 ·refine rpG ?_;exact iN f q.1 rfl
 refine rpG ?_;refine fJ Nd (bn ?_);refine rpG ?_;refine iN f q.1 ?_;have t:decide ((n:Int)=0)=decide (n=0):=by rw [dJ];omega
 rw [t];rfl
set_option maxHeartbeats 1000000 in
theorem Le {p:List C} (d4:dZ p=true) {g:T} {c:Int} {G:List PF} {d:Int} (d6:uC (.mk g c G) d=true) {S:ae} {u:Value} {cs:hZ} (hp:RdSl S 5 (RdC S) u p) (h:RdF S cs (.mk g c G)) :
  ll Ry [u,.agg cs.toArray] S (.bool (nodeC p g c G)):=by
 intro w f;obtain ⟨kv,kf,rfl,hg,d9,a2⟩:=RdF.iff.1 h;obtain ⟨c3,h8,b6⟩:=oo d6;have c1:=eL c3;simp only [PF.goal,PF.kids,PF.clause] at hg d9 a2 ⊢;have e5:=a2.le;simp only [maxLen] at e5;rw [nodeC];apply Ab.2;dsimp only[Ab,bl];refine bq f fun b3 w' f=>?_;have f:Inv w [] [ay b3 #[ax g.kind,ax g.n,.string g.name,kv,ax c,kf] ar] S w':=f;refine ad (u:=ax c) f 0 rfl dF aw rfl (bM (aJ (fun a1=>?_) (fun a1=>?_)))
 ·rw [ai a1];refine ad f 0 rfl bH bT rfl (aI a2 cK (bn ?_));have el:decide ((G.length:Int)=0)=decide (G.length=0):=by rw [dJ];omega
  rw [el];cases i6:decide (G.length=0)
  ·refine rpG ?_;exact done f rfl
  refine rpG ?_;obtain ⟨gk,h9,b7,_,_,i1,b8⟩:=RdT.iff.1 hg;refine ah dE (ah aW (aD (v:=.string g.name) f 0 aP rfl rfl (ah dE (ah ao (aD (v:=kv) f 0 aj rfl rfl ?_)))));have e6:RdSl S 4 (RdT S) kv g.kids:=by
   obtain ⟨i2,e,_,_,_,h2⟩:=RdT.iff.1 hg;simp only [gV,i0,vH] at e;rw [e];exact h2
  refine aI e6 ag (Run.callPure jq jn f (ij _ _ S) fun w' f=>?_);have e7:bW g=eN g.name g.kids.length:=by rw [bW,LQ c3,dz]
  rw [<- e7];cases N:bW g
  ·refine rpG ?_;refine done f ?_;rcases A4 c1 with ⟨_,h2⟩|⟨h2,_⟩
   ·rw [h2];rfl
   ·rw [N] at h2;cases h2
  refine rpG ?_;refine ah dE (cP f 0 [_,_,_,_] ac rfl rfl wg (Run.callPure Kv Lj f (Dx c1 N hg) fun w' f=>?_));refine rpG ?_;exact done f rfl
 rw [af a1];by_cases b7:(p.length:Int)<=c
 ·have e8:p[c.toNat]?=none:=Qh (by omega);rw [e8];refine ⟨fun D lL oF nz pD mn nj lS oC j7 jt oH lK mC r7 og rr kY gQ Z=>Fx D 0 [gQ=eu b3 4,kY=ax c,rr=u,og=ax p.length,r7=.bool true,mC=.bool true,lK=undef,oH=undef,jt=undef,j7=undef,oC=undef,lS=undef,nj=undef,mn=undef,pD=undef,nz=undef,oF=undef,lL=.bool true]/\Inv w [] [ay b3 #[ax g.kind,ax g.n,.string g.name,kv,ax c,kf] ar] S Z,⟨Fx.nil _ _,f.draw⟩,⟨?_,?_,?_,?_,?_,?_,?_,?_,?_,?_,?_,?_,?_,?_,?_,?_,?_,?_,trivial⟩,?_⟩;all_goals (intro D bw;intros;rename_i lL oF nz pD mn nj lS oC j7 jt oH lK mC r7 og rr kY gQ Z M;have a:=M.1;obtain ⟨⟨co,cn,bP,cj,cA,o,m,cM,de,dv,bU,cC,cY,dK,dd,ek,eH,fl,_⟩,f⟩:=M)
  apply ah dF;rotate_left
  obtain rfl:=co ‹_›;apply aD f 0 aw rfl rfl;rotate_left;rotate_left
  obtain rfl:=bP ‹_›;apply aI hp cr;rotate_left
  obtain rfl:=cn ‹_›;obtain rfl:=cj ‹_›;apply iS;rw [aL b7];rotate_left
  obtain rfl:=cA ‹_›;rotate_left
  obtain rfl:=o ‹_›;refine rpG ?_;rotate_left
  obtain rfl:=m ‹_›;obtain rfl:=o ‹_›;refine rpG ?_;rotate_left
  obtain rfl:=cM ‹_›;obtain rfl:=o ‹_›;refine rpG ?_;rotate_left
  obtain rfl:=o ‹_›;refine rpG ?_;rotate_left
  obtain rfl:=o ‹_›;refine rpG ?_;rotate_left
  obtain rfl:=bU ‹_›;obtain rfl:=o ‹_›;refine rpG ?_;rotate_left
  obtain rfl:=dv ‹_›;obtain rfl:=cC ‹_›;obtain rfl:=o ‹_›;refine rpG ?_;rotate_left
  obtain rfl:=cY ‹_›;obtain rfl:=o ‹_›;refine rpG ?_;rotate_left
  obtain rfl:=dK ‹_›;obtain rfl:=o ‹_›;refine rpG ?_;rotate_left
  obtain rfl:=dd ‹_›;obtain rfl:=o ‹_›;refine rpG ?_;rotate_left
  obtain rfl:=de ‹_›;obtain rfl:=ek ‹_›;obtain rfl:=o ‹_›;refine rpG ?_;rotate_left
  obtain rfl:=o ‹_›;obtain rfl:=eH ‹_›;refine rpG ?_;rotate_left
  all_goals try exact ⟨a.set _ (by first|rfl|assumption|trivial),f⟩
  obtain ⟨rfl,rfl,rfl,rfl,rfl,rfl,rfl,rfl,rfl,rfl,rfl,rfl,rfl,rfl,rfl,rfl,rfl,rfl,_⟩:=a.all;clear a co cn bP cj cA o m cM de dv bU cC cY dK dd ek eH fl;refine aE (fun _=>done f rfl) (fun N=>by cases N)
 obtain ⟨j,e1⟩:∃ j:Nat,c=(j:Int):=⟨c.toNat,by omega⟩
 have a5:j<p.length:=by omega
 subst e1;have e9:p[(j:Int).toNat]?=some p[j]:=by rw [dq,gd a5]
 rw [e9];have c7:=uI d4 (bJ a5);obtain ⟨q,hq⟩:∃ q,q=p[j]:=⟨_,rfl⟩
 obtain ⟨pb,po,a9,pc,pE,i3,rfl,c4,a3⟩:=hp.at_ a5;rw [<- hq] at a3 c7 ⊢;obtain ⟨kh,kb,b9,e2,a7⟩:=a3.cells;have f3:=a3.length;rw [b9] at a3;have f0:decide ((G.length:Int)=(q.body.length:Int))=decide (G.length=q.body.length):=by rw [dJ];omega
 have c8:=xd c7;refine ⟨fun D lL oF nz pD mn nj lS oC j7 jt oH lK mC r7 og rr kY gQ Z=>Fx D 0 [gQ=eu b3 4,kY=ax (j:Int),rr=eF pb po p.length a9,og=ax p.length,r7=.bool false,mC=.bool false,lK=eu b3 5,oH=kf,jt=ax G.length,j7=eF pb po p.length a9,oC=eu b3 4,lS=ax (j:Int),nj=eu pb (po+j * 5),mn=eu pb (po+j * 5+4),pD=kb,nz=ax q.body.length,oF=.bool (!decide (G.length=q.body.length)),lL=.bool (!decide (G.length=q.body.length))]/\Inv w [] [ay b3 #[ax g.kind,ax g.n,.string g.name,kv,ax (j:Int),kf] ar] S Z,⟨Fx.nil _ _,f.draw⟩,⟨?_,?_,?_,?_,?_,?_,?_,?_,?_,?_,?_,?_,?_,?_,?_,?_,?_,?_,trivial⟩,?_⟩;all_goals (intro D bw;intros;rename_i lL oF nz pD mn nj lS oC j7 jt oH lK mC r7 og rr kY gQ Z M;have a:=M.1;obtain ⟨⟨co,cn,bP,cj,cA,o,m,cM,de,dv,bU,cC,cY,dK,dd,ek,eH,fl,_⟩,f⟩:=M)
 apply ah dF;rotate_left
 obtain rfl:=co ‹_›;apply aD f 0 aw rfl rfl;rotate_left;rotate_left
 obtain rfl:=bP ‹_›;apply aI hp cr;rotate_left
 obtain rfl:=cn ‹_›;obtain rfl:=cj ‹_›;apply iS;rw [aS b7];rotate_left
 obtain rfl:=cA ‹_›;rotate_left
 obtain rfl:=o ‹_›;refine rpG ?_;apply ah bH;rotate_left
 obtain rfl:=m ‹_›;obtain rfl:=o ‹_›;refine rpG ?_;apply aD f 0 bT rfl rfl;rotate_left
 have Fi:=cM ‹_›;obtain rfl:=o ‹_›;refine rpG ?_;refine aI (xs:=G) (by rw [Fi];exact a2) cK ?_;rotate_left
 obtain rfl:=o ‹_›;refine rpG ?_;rotate_left
 obtain rfl:=o ‹_›;refine rpG ?_;apply ah dF;rotate_left
 obtain rfl:=bU ‹_›;obtain rfl:=o ‹_›;refine rpG ?_;apply aD f 0 aw rfl rfl;rotate_left
 obtain rfl:=dv ‹_›;obtain rfl:=cC ‹_›;obtain rfl:=o ‹_›;refine rpG ?_;apply az cr a5;rotate_left
 obtain rfl:=cY ‹_›;obtain rfl:=o ‹_›;refine rpG ?_;apply ah bF;rotate_left
 obtain rfl:=dK ‹_›;obtain rfl:=o ‹_›;refine rpG ?_;refine cS aj (by rw [f.cellS c4];exact aA b9 4 _ rfl) ?_;rotate_left
 have Eb:=dd ‹_›;obtain rfl:=o ‹_›;refine rpG ?_;refine aI (xs:=q.body) (by rw [Eb];exact a7) ag ?_;rotate_left
 obtain rfl:=de ‹_›;obtain rfl:=ek ‹_›;obtain rfl:=o ‹_›;refine rpG ?_;apply dw;rw [f0];rotate_left
 obtain rfl:=o ‹_›;obtain rfl:=eH ‹_›;refine rpG ?_;rotate_left
 all_goals try exact ⟨a.set _ (by first|rfl|assumption|trivial),f⟩
 obtain ⟨rfl,rfl,rfl,rfl,rfl,rfl,rfl,Fi,rfl,rfl,rfl,rfl,rfl,rfl,Eb,rfl,rfl,rfl,_⟩:=a.all;clear a co cn bP cj cA o m cM de dv bU cC cY dK dd ek eH fl;refine aE (fun N=>done f ?_) (fun N=>?_)
 ·have N:decide (G.length=q.body.length)=false:=by simpa using N
  simp only [N];rfl
 have c9:G.length=q.body.length:=by simpa using N
 simp only [aL c9,dz];refine ad (u:=ax (j:Int)) f 0 rfl dF aw rfl (az cr a5 (bV (cs:=[ax q.head.kind,ax q.head.n,.string q.head.name,kh,kb]) bR rfl (fun i v hi=>by rw [f.cellS c4];exact aA b9 i v hi) (aG f fj fun b5 w' f=>?_)));refine aq f 1 rfl bR rfl rfl (by simpa using a3.one) fun w' f=>?_;refine sO (n:=26) f bx (by omega) (by omega) (by omega) fun tb w' f=>?_;have b1:=aaq _ rfl S;obtain ⟨U,b0⟩:∃ U,U=(Array.range 104).map ((bb:Array Value)[· % (bb:Array Value).size]!):=⟨_,rfl⟩
 rw [<- b0] at b1;have f:Inv w [] [ay b3 #[ax g.kind,ax g.n,.string g.name,kv,ax (j:Int),kf] ar,ay b5 #[ax q.head.kind,ax q.head.n,.string q.head.name,kh,kb] aB,ay tb U ab] S w':=by rw [b0];exact f
 refine ah dl (cP f 1 (hJ q.head kh) ac rfl rfl Nw (ah dE (cP f 0 (hJ g kv) ac rfl rfl wg ?_)));have b8:=(lC c1).2;have a6:=yx 26 q.head g S _ _ tb U st0 e2 hg c8.1.1 b8 Om b1;have d0:=np q.head g st0 Om b8;generalize cN q.head g st0=r0 at a6 d0 ⊢;refine Run.call (A:=[_,_]) sF sL f a6 fun v' I' S1 w'=>?_;rintro ⟨rfl,rfl,U,rfl,b2⟩ _ f;apply cq;cases i7:r0.1
 ·refine aE (fun _=>done f rfl) (fun N=>by cases N)
 refine aE (fun N=>by cases N) (fun _=>?_);simp only [dz];refine ⟨fun i w'=>∃ (k:Nat) (J:au) (U:Array Value),k<=q.body.length/\i=ax k/\Cm (q.body.drop k) (G.drop k) J=Cm q.body G r0.2/\C3 J/\KnownC S1 U J/\Inv w [] [ay b3 #[ax g.kind,ax g.n,.string g.name,kv,ax (j:Int),kf] ar,ay b5 #[ax q.head.kind,ax q.head.n,.string q.head.name,kh,kb] aB,ay tb U ab] S1 w',
  fun i _=>q.body.length - (intOf i).toNat,⟨0,r0.2,U,bf _,rfl,rfl,d0,b2,f⟩,?_⟩
 intro i _ _ _ f4 f5 f6 f7 f8 f9 g0 g1 g2 g3 g4 g5 g6 g7 g8 g9 h0 h3 h4 h5 h6 h7 _ _ _ _ _ w';rintro ⟨k,J,U,hk,rfl,r,c2,b2,f⟩;have d1:=a7.le;simp only [maxLen] at d1;refine ad f 1 rfl bF aj rfl (aI a7 ag (bM (aJ (fun d7=>?_) (fun d7=>?_))))
 ·have Y:k<q.body.length:=by omega
  have a8:k<G.length:=by omega
  rw [dB Y,dB a8,Cm] at r;obtain ⟨qb,qo,O,qc,qE,i4,rfl,c0,V⟩:=a7.at_ Y;obtain ⟨fb,fo,a4,fc,fE,i5,rfl,e3,e4⟩:=a2.at_ a8;obtain ⟨fv,ff,c5,c6,_,_⟩:=RdF.iff.1 e4;obtain ⟨x,hx⟩:∃ x,x=G[k]:=⟨_,rfl⟩
  obtain ⟨y,hy⟩:∃ y,y=q.body[k]:=⟨_,rfl⟩
  have f1:y∈q.body:=by rw [hy];exact bJ Y
  have d2:fi x.goal=true:=by
   have h1:=b6 G[k] (bJ a8);rw [<- hx] at h1;obtain ⟨xg,xc,xk⟩:=x;exact (oo h1).1
  rw [<- hx] at c5 c6 r;rw [<- hy] at V r;cases a0:fC y
  ·have f:=f;refine ⟨fun D xB wx xD wV yn xL yr AF xA yf Ar ze ud Bw Eg D5 Fw EV FF DD Hm Sd Z=>Fx D 0 [Sd=eu b5 4,Hm=eF qb qo q.body.length O,DD=ax k,FF=eu qb (qo+k * 4),EV=.agg (aO qc (qo+k * 4) 4).toArray,Fw=.bool false,D5=.bool false,Eg=eu b5 4,Bw=eF qb qo q.body.length O,ud=ax k,ze=eu qb (qo+k * 4),Ar=.agg (aO qc (qo+k * 4) 4).toArray,yf=eu b3 5,xA=eF fb fo G.length a4,AF=ax k,yr=eu fb (fo+k * 6),xL=eu fb (fo+k * 6),yn=.agg (gn x.goal fv),wV=kv0 tb,xD=.bool (cN y x.goal J).1,wx=.bool (!(cN y x.goal J).1),xB=.bool (!(cN y x.goal J).1)]/\∃ l,(D 19=false->l=U)/\(D 19=true->KnownC S1 l (cN y x.goal J).2)/\Inv w [] [ay b3 #[ax g.kind,ax g.n,.string g.name,kv,ax (j:Int),eF fb fo G.length a4] ar,ay b5 #[ax q.head.kind,ax q.head.n,.string q.head.name,kh,eF qb qo q.body.length O] aB,ay tb l ab] S1 Z,⟨Fx.nil _ _,⟨U,fun _=>rfl,aU,f.draw⟩⟩,⟨?_,?_,?_,?_,?_,?_,?_,?_,?_,?_,?_,?_,?_,?_,?_,?_,?_,?_,?_,?_,?_,?_,trivial⟩,?_⟩;all_goals (intro D bw;intros;rename_i xB wx xD wV yn xL yr AF xA yf Ar ze ud Bw Eg D5 Fw EV FF DD Hm Sd Z M;have a:=M.1;obtain ⟨⟨co,cn,bP,cj,cA,o,m,cM,de,dv,bU,cC,cY,dK,dd,ek,eH,fl,gZ,fI,iI,jU,_⟩,⟨l,t,B,f⟩⟩:=M)
   apply ah bF;rotate_left
   obtain rfl:=co ‹_›;apply aD f 1 aj rfl rfl;rotate_left;rotate_left
   obtain rfl:=cn ‹_›;obtain rfl:=bP ‹_›;apply az ag Y;rotate_left
   obtain rfl:=cj ‹_›;refine bV ac V.length (fun i v hi=>by rw [f.cellS c0];exact aA rfl i v hi) ?_;rotate_left
   obtain rfl:=cA ‹_›;refine Run.callPure s0 sX f (pV V) fun Z f=>?_;rw [a0];rotate_left
   obtain rfl:=o ‹_›;rotate_left
   obtain rfl:=m ‹_›;refine rpG ?_;apply ah bF;rotate_left
   obtain rfl:=cM ‹_›;obtain rfl:=m ‹_›;refine rpG ?_;apply aD f 1 aj rfl rfl;rotate_left
   obtain rfl:=m ‹_›;refine rpG ?_;rotate_left
   obtain rfl:=de ‹_›;obtain rfl:=dv ‹_›;obtain rfl:=m ‹_›;refine rpG ?_;apply az ag Y;rotate_left
   obtain rfl:=bU ‹_›;obtain rfl:=m ‹_›;refine rpG ?_;refine bV ac V.length (fun i v hi=>by rw [f.cellS c0];exact aA rfl i v hi) ?_;rotate_left
   obtain rfl:=m ‹_›;refine rpG ?_;apply ah bH;rotate_left
   obtain rfl:=cY ‹_›;obtain rfl:=m ‹_›;refine rpG ?_;apply aD f 0 bT rfl rfl;rotate_left
   obtain rfl:=m ‹_›;refine rpG ?_;rotate_left
   obtain rfl:=dK ‹_›;obtain rfl:=dd ‹_›;obtain rfl:=m ‹_›;refine rpG ?_;apply az cK a8;rotate_left
   obtain rfl:=ek ‹_›;obtain rfl:=m ‹_›;refine rpG ?_;apply ah dE;rotate_left
   obtain rfl:=eH ‹_›;obtain rfl:=m ‹_›;refine rpG ?_;refine bV (cs:=(hJ x.goal fv)) ac rfl (fun i v hi=>by rw [f.cellS e3];exact aA c5 i v (Vl i v hi)) ?_;rotate_left
   obtain rfl:=m ‹_›;refine rpG ?_;rotate_left
   obtain rfl:=cC ‹_›;obtain rfl:=fl ‹_›;obtain rfl:=gZ ‹_›;obtain rfl:=m ‹_›;refine rpG ?_;have e0:=t bw;rw [e0] at f;refine Run.callE (A:=[_,_]) sF sL f (yx 26 y x.goal S1 _ _ tb U J V c6 (pC c8.2.1 _ f1) (lC (eL d2)).2 c2 b2) fun v' I' S2 Z=>?_;rintro ⟨eS,rfl,l,rfl,b4⟩ _ f;rw [eS] at f;have t:=fun (h:aC D 19 19=false)=>(Bool.noConfusion h:l=U)
   have B:=fun (_:aC D 19 19=true)=>b4
   rotate_left;obtain rfl:=fI ‹_›;obtain rfl:=m ‹_›;refine rpG ?_;apply cq;rotate_left
   obtain rfl:=m ‹_›;obtain rfl:=iI ‹_›;refine rpG ?_;rotate_left
   all_goals try exact ⟨a.set _ (by first|rfl|assumption|trivial),l,t,B,f⟩
   obtain ⟨rfl,rfl,rfl,rfl,rfl,rfl,rfl,rfl,rfl,rfl,rfl,rfl,rfl,rfl,rfl,rfl,rfl,rfl,rfl,rfl,rfl,rfl,_⟩:=a.all;have f2:D 19=true:=by assumption
   clear a;have b4:=B f2;have d3:=np y x.goal J c2 (lC (eL d2)).2;rw [a0] at r;cases hm:(cN y x.goal J).1
   ·refine aE (fun _=>done f ?_) (fun N=>by cases N);rw [<- r,hm];rfl
   refine aE (fun N=>by cases N) (fun _=>?_);refine bA (by omega) ?_;rw [hm,Bool.not_false,dz,dz] at r;exact ⟨⟨k+1,_,l,Y,rfl,r,d3,b4,f⟩,by simp [intOf];omega⟩
  ·have f:=f;refine ⟨fun D xB wx xD wV yn xL yr AF xA yf Ar ze ud Bw Eg D5 Fw EV FF DD Hm Sd Z=>Fx D 0 [Sd=eu b5 4,Hm=eF qb qo q.body.length O,DD=ax k,FF=eu qb (qo+k * 4),EV=.agg (aO qc (qo+k * 4) 4).toArray,Fw=.bool true,D5=.bool true,Eg=undef,Bw=undef,ud=undef,ze=undef,Ar=undef,yf=undef,xA=undef,AF=undef,yr=undef,xL=undef,yn=undef,wV=undef,xD=undef,wx=undef,xB=.bool true]/\Inv w [] [ay b3 #[ax g.kind,ax g.n,.string g.name,kv,ax (j:Int),eF fb fo G.length a4] ar,ay b5 #[ax q.head.kind,ax q.head.n,.string q.head.name,kh,eF qb qo q.body.length O] aB,ay tb U ab] S1 Z,⟨Fx.nil _ _,f.draw⟩,⟨?_,?_,?_,?_,?_,?_,?_,?_,?_,?_,?_,?_,?_,?_,?_,?_,?_,?_,?_,?_,?_,?_,trivial⟩,?_⟩;all_goals (intro D bw;intros;rename_i xB wx xD wV yn xL yr AF xA yf Ar ze ud Bw Eg D5 Fw EV FF DD Hm Sd Z M;have a:=M.1;obtain ⟨⟨co,cn,bP,cj,cA,o,m,cM,de,dv,bU,cC,cY,dK,dd,ek,eH,fl,gZ,fI,iI,jU,_⟩,f⟩:=M)
   apply ah bF;rotate_left
   obtain rfl:=co ‹_›;apply aD f 1 aj rfl rfl;rotate_left;rotate_left
   obtain rfl:=cn ‹_›;obtain rfl:=bP ‹_›;apply az ag Y;rotate_left
   obtain rfl:=cj ‹_›;refine bV ac V.length (fun i v hi=>by rw [f.cellS c0];exact aA rfl i v hi) ?_;rotate_left
   obtain rfl:=cA ‹_›;refine Run.callPure s0 sX f (pV V) fun Z f=>?_;rw [a0];rotate_left
   obtain rfl:=o ‹_›;rotate_left
   obtain rfl:=m ‹_›;refine rpG ?_;rotate_left
   obtain rfl:=cM ‹_›;obtain rfl:=m ‹_›;refine rpG ?_;rotate_left
   obtain rfl:=m ‹_›;refine rpG ?_;rotate_left
   obtain rfl:=de ‹_›;obtain rfl:=dv ‹_›;obtain rfl:=m ‹_›;refine rpG ?_;rotate_left
   obtain rfl:=bU ‹_›;obtain rfl:=m ‹_›;refine rpG ?_;rotate_left
   obtain rfl:=m ‹_›;refine rpG ?_;rotate_left
   obtain rfl:=cY ‹_›;obtain rfl:=m ‹_›;refine rpG ?_;rotate_left
   obtain rfl:=m ‹_›;refine rpG ?_;rotate_left
   obtain rfl:=dK ‹_›;obtain rfl:=dd ‹_›;obtain rfl:=m ‹_›;refine rpG ?_;rotate_left
   obtain rfl:=ek ‹_›;obtain rfl:=m ‹_›;refine rpG ?_;rotate_left
   obtain rfl:=eH ‹_›;obtain rfl:=m ‹_›;refine rpG ?_;rotate_left
   obtain rfl:=m ‹_›;refine rpG ?_;rotate_left
   obtain rfl:=cC ‹_›;obtain rfl:=fl ‹_›;obtain rfl:=gZ ‹_›;obtain rfl:=m ‹_›;refine rpG ?_;rotate_left
   obtain rfl:=fI ‹_›;obtain rfl:=m ‹_›;refine rpG ?_;rotate_left
   obtain rfl:=m ‹_›;obtain rfl:=iI ‹_›;refine rpG ?_;rotate_left
   all_goals try exact ⟨a.set _ (by first|rfl|assumption|trivial),f⟩
   obtain ⟨rfl,rfl,rfl,rfl,rfl,rfl,rfl,rfl,rfl,rfl,rfl,rfl,rfl,rfl,rfl,rfl,rfl,rfl,rfl,rfl,rfl,rfl,_⟩:=a.all;clear a co cn bP cj cA o m cM de dv bU cC cY dK dd ek eH fl gZ fI iI jU;refine aE (fun _=>done f ?_) (fun N=>by cases N);rw [<- r,a0];rfl
 ·have:k=q.body.length:=by omega
  subst this;refine done f ?_;rw [<- r,dY];generalize G.drop q.body.length=zs;cases zs <;> rfl
theorem H7 {p:List C} (t:dZ p=true):∀ (x:PF) (d:Int) (S:ae) (u:Value) (cs:hZ),uC x d=true->RdSl S 5 (RdC S) u p->RdF S cs x->ll Nu [u,.agg cs.toArray] S (.bool (chkF p x)):=by
 refine PF.ind fun g c m ih d S u cs q N h=>?_;intro w a;have Y:=h;obtain ⟨kv,V,rfl,hg,J,j⟩:=RdF.iff.1 h;obtain ⟨_,_,o⟩:=oo q;simp only [PF.goal,PF.kids,PF.clause] at hg J j Y ⊢;have M:=j.le;simp only [maxLen] at M;rw [chkF];apply ye.2;dsimp only[ye,bl];refine bq a fun O w' a=>?_;have a:Inv w [] [ay O #[ax g.kind,ax g.n,.string g.name,kv,ax c,V] ar] S w':=a;refine av a 0 bp rfl rfl (Run.callPure Ps Pz a (Le t q N Y) fun w' a=>?_);apply cq;cases hn:nodeC p g c m
 ·refine aE (fun _=>done a rfl) (fun B=>by cases B)
 refine aE (fun B=>by cases B) (fun _=>?_);rw [dz];refine ⟨fun i w'=>∃ k:Nat,k<=m.length/\i=ax k/\chkFL p (m.drop k)=chkFL p m/\Inv w [] [ay O #[ax g.kind,ax g.n,.string g.name,kv,ax c,V] ar] S w',
  fun i _=>m.length - (intOf i).toNat,⟨0,bf _,rfl,rfl,a⟩,?_⟩
 intro i;(iterate 16 intro);intro w';rintro ⟨k,hk,rfl,f,a⟩;refine ad a 0 rfl bH bT rfl (aI j cK (bM (aJ (fun D=>?_) (fun D=>?_))))
 ·have l:k<m.length:=by omega
  have Z:=bJ l;rw [dB l,chkFL] at f;refine ad a 0 rfl bH bT rfl (cL a j cK bp l (fun _ _=>RdF.length) fun ds G=>?_);refine Run.callPure yO yu a (ih _ Z (d - 1) S u ds (o _ Z) N G) fun w' a=>?_;apply cq;refine aE (fun r=>done a ?_) (fun U=>?_)
  ·rw [lg] at r;rw [<- f,r];rfl
  ·rw [rW] at U;rw [U,dz] at f;refine bA (by omega) ?_;exact ⟨⟨k+1,l,rfl,f,a⟩,by simp [intOf];omega⟩
 ·have:k=m.length:=by omega
  subst this;exact done a (by rw [<- f,dY];rfl)
end
end
end Go.Proofs.YtellfcpffcipcaaGreatDoor
