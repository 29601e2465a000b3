/- The program's TermValid and what it calls. -/
import Derived.Test.YtgllldjiaglkcaaGreatDoorZUf0
namespace Go.Proofs.YtgllldjiaglkcaaGreatDoor
section
open Go Go.RowKit
attribute [local irreducible] Run CondV aq aK

theorem fi (n low a:Int) (S:ae):Pure Tryz.prog Qu [.int .i64 n,.int .i64 low,.int .i64 a] S (.bool (decide (low<=n) && decide (n<=a))):=by
 intro w f;refine Cd.2 ?_;dsimp only[Cd,fQ];refine fU ?_;refine kP (fun h=>?_) (fun h=>done f (by rw [h]; rfl));refine fU ?_;exact iM h (done f (by rw [h]; rfl))
theorem r3 (s:ByteArray) (q:s.size<=maxLen) (S:ae):Pure Tryz.prog Hr [.string s] S (.bool (my s)):=by
 intro w l;simp only [maxLen] at q;refine uv.2 ?_;dsimp only[uv,aO];refine jw aZ ?_;refine ⟨fun i w'=>∃ k:Nat,k<=s.size/\i=.int .i64 k/\(s.data.toList.drop k).all tH=s6 s/\Inv w [] [] S w',fun i _=>s.size - (intOf i).toNat,⟨0,bk _,rfl,rfl,l⟩,?_⟩;intro r _ _ _ _ _ _ _ _ _ _ _ _ _ _ _ w';rintro ⟨k,hk,rfl,f,l⟩;refine bS ?_;refine aL (fun m=>?_) (fun m=>?_)
 ·have g:k<s.size:=by omega
  have a:=y6 tH s.data.toList k (by rw [pX]; exact g);rw [Ol s k g] at a;refine ⟨fun t w'=>t=.bool (!tH s[k])/\Inv w [] [] S w',?_,?_⟩
  ·refine mj aZ g ?_;refine bS ?_;refine KU (fun h=>⟨?_,l⟩) (fun h=>?_)
   ·have h:=of_decide_eq_true h;rw [tH,ba (show ¬ 97<=s[k].toNat by omega)]; rfl
   ·refine mj aZ g ?_;refine eP ?_;refine BM h ⟨?_,l⟩;have h:=of_decide_eq_false h;rw [tH,aN (show 97<=s[k].toNat by omega),eH];by_cases o:s[k].toNat<=122
    ·rw [aN o,ba (by omega)]; rfl
    ·rw [ba o,aN (by omega)]; rfl
  intro t _ _ _ _ _ _ _ _ _ w';rintro ⟨rfl,l⟩;refine aD (fun h=>done l ?_) (fun h=>?_)
  ·simp at h;rw [my,<- f,a,h]; rfl
  ·simp at h;refine bC (by omega) ?_;refine ⟨⟨k+1,g,rfl,by rw [<- f,a,h]; rfl,l⟩,by simp [intOf]; omega⟩
 ·have:k=s.size:=by omega
  subst this;have hl:s6 s=true:=by rw [<- f,<- pX,eC]; rfl
  refine jw aZ ?_;refine Run.callPure fS fT l (fi _ _ _ S) fun w' l=>done l ?_;rw [my,hl,eH]
  congr 1
  rw [nZ];simp;omega
theorem HQ (S:ae):Tri Tryz.prog Mp [] [] S (JD S):=by
 intro w f;refine yy.2 ?_;dsimp only[yy,nV];refine wD (v:=fun b=>.slice (some ⟨b,0,none⟩) 15 15) (o:=.cells Au g9) f (by kernel_rfl) fun b w' f=>?_;have a:w.heap.size<=b:=by
  rcases f.new b (by simp [bP,Item.foot]) with h|h
  ·simp [bP] at h
  ·exact h
 obtain ⟨i,g⟩:=Inv.publishLast (L:=[]) f;exact ⟨_,_,_,rfl,i,My a g,rfl,g,OA (by simp [qc]; rfl)⟩
theorem wK (s:ByteArray) {xs:List ByteArray} {S:ae} {v:Value} (h:RdSl S 1 wv v xs) :
  Pure Tryz.prog Be [v,.string s] S (.int .i64 (cn (σ:=Unit) (fun _ x=>(decide (x=s),())) () xs 0).1):=by
 intro w g;have l:=h.le;simp only [maxLen] at l;refine nq.2 ?_;dsimp only[nq,bm];refine aJ h cV ?_;refine ⟨fun i w'=>∃ k:Nat,k<=xs.length/\i=.int .i64 k/\cn (σ:=Unit) (fun _ x=>(decide (x=s),())) () (xs.drop k) k=cn (σ:=Unit) (fun _ x=>(decide (x=s),())) () xs 0/\Inv w [] [] S w',
  fun i _=>xs.length - (intOf i).toNat,⟨0,bk _,rfl,rfl,g⟩,?_⟩
 intro r _ _ _ _ _ _ _ _ _ _ _ _ w';rintro ⟨k,hk,rfl,a,g⟩;refine bS ?_;refine aL (fun m=>?_) (fun m=>?_)
 ·have f:k<xs.length:=by omega
  rw [dY f,cn] at a;refine fg g h cV be f (fun cs o=>o) ?_;refine bQ ?_;refine aL (fun q=>done g ?_) (fun q=>?_)
  ·rw [<- a,ai (by simpa using q.symm)]
  ·refine bC (by omega) ?_;rw [ag (by simpa using fun e=>q e.symm)] at a;exact ⟨⟨k+1,f,rfl,a,g⟩,by simp [intOf]; omega⟩
 ·have:k=xs.length:=by omega
  subst this;rw [eC,cn] at a;exact done g (by rw [<- a])
theorem gK (s:ByteArray) {xs:List ByteArray} {S:ae} {v:Value} (h:RdSl S 1 wv v xs) :
  Pure Tryz.prog vf [v,.string s] S (.bool (xs.any fun x=>decide (x=s))):=by
 intro w a;refine lh.2 ?_;dsimp only[lh,bm];refine Run.callPure y0 zJ a (wK s h) fun w' a=>?_;refine jM (done a ?_);rw [(j9 _ xs () 0).1,jW]
theorem BE (s:ByteArray) (g:s.size<=maxLen) (S:ae):Pure Tryz.prog Hq [.string s] S (.bool (lJ s)):=by
 intro w a;refine uj.2 ?_;dsimp only[uj,aO];refine Run.callPure tQ uf a (r3 s g S) fun w' a=>?_;refine KU (fun h=>done a ?_) (fun h=>?_)
 ·rw [lJ,h]; rfl
 ·refine Run.call0 Mc Ma a (HQ S) fun l I' S' w'=>?_;rintro ⟨rfl,_,i⟩ f a;refine Run.callPure gU g6 a (gK s i) fun w' a=>?_;refine BM h (iw a f ?_);rw [lJ,h]; rfl

abbrev lz (b:Nat) (c:Int):Item:=.blk b (.cells #[.int .i64 c] cO)
abbrev zN (bc:Nat) (S:ae) (r:Bool × Int):Value->List Item->ae->Prop:=fun v I' S'=>v=.bool r.1/\I'=[lz bc r.2]/\S'=S
theorem Oe:∀ (t:T) (a c:Int),c<=120->(fV t a c).1=true->c<(fV t a c).2/\(fV t a c).2<=120:=by
 intro t a c hc h;have:=GJ t a c;rw [this.2 h];have f:=this.1;rw [h] at f;have g:=f.symm;simp at g;have:=pU t;omega
theorem I0 (a:Int):∀ (ks:List T) (c:Int),se (fun c t=>(!(fV t a c).1,(fV t a c).2)) c ks=(!(mp ks a c).1,(mp ks a c).2)
 | [],c=>by simp [se,mp]
 | t::ts,c=>by
  by_cases h:(fV t a c).1=true
  ·simp [se,mp,h,I0 a ts]
  ·simp [se,mp,h]

theorem Py:∀ (t:T) (S:ae) (cs:List Value) (a c:Int) (bc:Nat),RdT S cs t->0<=a->a<=31->0<=c->c<=120->
  Tri Tryz.prog Up [.agg cs.toArray,.int .i64 a,.pointer (some ⟨bc,0,none⟩)] [lz bc c] S (zN bc S (fV t a c)):=by
 refine T.ind fun k n s ks ih S cs a c bc h a4 a5 a6 a7=>?_;intro w f;obtain ⟨kv,rfl,_,_,hs,D⟩:=RdT.iff.1 h;simp only [T.name,T.kids,T.kind,T.n] at hs D ⊢;have l:∀ {L:List Item} {w':World} {v:Value} (r:Bool × Int),Inv w (bP [lz bc c]) (lz bc r.2::L) S w'->v=.bool r.1->r=fV (.mk k n s ks) a c->
   ∃ Y I' S',Ending.returned v=.returned Y/\Inv w (bP [lz bc c]) I' S' w'/\Ext w.heap.size (bP [lz bc c]) S S'/\zN bc S (fV (.mk k n s ks) a c) Y I' S':=by
  intro L w' v r h1 m o;subst o;exact ⟨_,_,_,rfl,h1.pick [true],Ext.refl _ _ _,m,rfl,rfl⟩
 refine Jo.2 ?_;dsimp only[Jo,fQ];refine bJ f fun b3 w' f=>?_;refine bJ f fun U w' f=>?_;refine bJ f fun V w' f=>?_;refine aT f 3 LZ rfl rfl ?_;refine aE ?_;refine aT f 0 aG rfl rfl ?_;refine bC (by omega) ?_;refine aE ?_;refine dy f 0 (n:=1) rfl (by rw [aG]; rfl) rfl (mL rfl) (by simp [Value.cells]; rfl) fun w' f=>?_;refine ⟨fun t w'=>t=.bool (decide (120<c+1 ∨ 30<a))/\Inv w (bP [lz bc c]) [lz bc (c+1),.blk b3 (.cells #[.int .i64 k,.int .i64 n,.string s,kv] ab),.blk U (.cells #[.int .i64 a] cO),.blk V (.cells #[.pointer (some ⟨bc,0,none⟩)] qY)] S w',?_,?_⟩
 ·refine aT f 3 LZ rfl rfl ?_;refine aE ?_;refine aT f 0 aG rfl rfl ?_;refine eP ?_;refine KU (fun h=>⟨?_,f⟩) (fun h=>?_)
  ·have h:=of_decide_eq_true h;rw [aN (show 120<c+1 ∨ 30<a from .inl h)]
  ·refine aT f 2 aG rfl rfl ?_;refine eP ?_;refine BM h ⟨?_,f⟩;have h:=of_decide_eq_false h
   congr 1
   rw [nZ];simp;omega
 intro t _ _ _ _ _ _ _ w';rintro ⟨rfl,f⟩;refine aL (fun hb=>?_) (fun hb=>?_)
 ·exact l (false,c+1) f rfl (by rw [fV,ai hb])
 have G:∀ r,(if k=1 ∨ k=2 then (eB (.mk k n s ks),c+1) else if k=3 then (if eB (.mk k n s ks) then mp ks (a+1) (c+1) else (false,c+1)) else (false,c+1))=r->r=fV (.mk k n s ks) a c:=by
  intro r hr;rw [fV,ag hb,hr]
 refine af f 1 rfl aW aG rfl ?_;refine bw ?_;refine aL (fun hk=>?_) (fun hk=>?_)
 ·have J:eB (.mk k n s ks)=(decide (0<=n) && (decide (n<=25) && (decide (s=emptyB) && decide (ks.length=0)))):=by
   rw [eB]; exact ai hk
  have i:∀ {w':World} {b:Bool},Inv w (bP [lz bc c]) [lz bc (c+1),.blk b3 (.cells #[.int .i64 k,.int .i64 n,.string s,kv] ab),.blk U (.cells #[.int .i64 a] cO),.blk V (.cells #[.pointer (some ⟨bc,0,none⟩)] qY)] S w'->
    b=eB (.mk k n s ks)->∃ Y I' S',Ending.returned (.bool b)=.returned Y/\Inv w (bP [lz bc c]) I' S' w'/\Ext w.heap.size (bP [lz bc c]) S S'/\zN bc S (fV (.mk k n s ks) a c) Y I' S':=
   fun f hb=>l (_,c+1) f (by rw [hb]) (G _ (ai (.inl hk)))
  refine af f 1 rfl bi aG rfl ?_;refine Run.callPure fS fT f (fi _ _ _ S) fun w' f=>?_;refine kP (fun m=>?_) (fun m=>?_)
  ·have g:=m;rw [bM] at g;refine af f 1 rfl bl be rfl ?_;refine bQ ?_;refine iM m ?_;refine kP (fun o=>?_) (fun o=>i f ?_)
   ·refine af f 1 rfl ar al rfl ?_;refine aJ D ah ?_;refine bw ?_;refine iM o (i f ?_);rw [J,g.1,g.2,show decide (s=emptyB)=true from o];simp
   ·rw [J,g.1,g.2,show decide (s=emptyB)=false from o]; rfl
  ·refine qE (i f ?_);rw [J,<- Bool.and_assoc,m]; rfl
 refine bw ?_;refine aL (fun q=>?_) (fun q=>?_)
 ·have J:eB (.mk k n s ks)=(decide (-999<=n) && (decide (n<=999) && (decide (s=emptyB) && decide (ks.length=0)))):=by
   rw [eB]; exact (ag hk).trans (ai q)
  have i:∀ {w':World} {b:Bool},Inv w (bP [lz bc c]) [lz bc (c+1),.blk b3 (.cells #[.int .i64 k,.int .i64 n,.string s,kv] ab),.blk U (.cells #[.int .i64 a] cO),.blk V (.cells #[.pointer (some ⟨bc,0,none⟩)] qY)] S w'->
    b=eB (.mk k n s ks)->∃ Y I' S',Ending.returned (.bool b)=.returned Y/\Inv w (bP [lz bc c]) I' S' w'/\Ext w.heap.size (bP [lz bc c]) S S'/\zN bc S (fV (.mk k n s ks) a c) Y I' S':=
   fun f hb=>l (_,c+1) f (by rw [hb]) (G _ (ai (.inr q)))
  refine af f 1 rfl bi aG rfl ?_;refine Run.callPure fS fT f (fi _ _ _ S) fun w' f=>?_;refine kP (fun m=>?_) (fun m=>?_)
  ·have g:=m;rw [bM] at g;refine af f 1 rfl bl be rfl ?_;refine bQ ?_;refine iM m ?_;refine kP (fun o=>?_) (fun o=>i f ?_)
   ·refine af f 1 rfl ar al rfl ?_;refine aJ D ah ?_;refine bw ?_;refine iM o (i f ?_);rw [J,g.1,g.2,show decide (s=emptyB)=true from o];simp
   ·rw [J,g.1,g.2,show decide (s=emptyB)=false from o]; rfl
  ·refine qE (i f ?_);rw [J,<- Bool.and_assoc,m]; rfl
 refine bw ?_;have N:¬ (k=1 ∨ k=2):=fun h=>h.elim hk q;refine aL (fun B=>?_) (fun B=>?_)
 ·have J:eB (.mk k n s ks)=(decide (n=0) && (lJ s && decide (ks.length<=4))):=by
   rw [eB]; exact (ag hk).trans ((ag q).trans (ai B))
  refine ⟨fun t w'=>t=.bool (!eB (.mk k n s ks))/\Inv w (bP [lz bc c]) [lz bc (c+1),.blk b3 (.cells #[.int .i64 k,.int .i64 n,.string s,kv] ab),.blk U (.cells #[.int .i64 a] cO),.blk V (.cells #[.pointer (some ⟨bc,0,none⟩)] qY)] S w',?_,?_⟩
  ·refine af f 1 rfl bi aG rfl ?_;refine fW ?_;refine KU (fun h1=>?_) (fun h1=>?_)
   ·have a0:decide (n=0)=false:=by simpa using h1
    refine Zs ⟨?_,f⟩;rw [J,a0]; rfl
   ·have a0:decide (n=0)=true:=by simpa using h1
    refine af f 1 rfl bl be rfl ?_;refine Run.callPure Hg Gk f (BE s hs S) fun w' f=>?_;refine cw ?_;refine BM h1 ?_;refine KU (fun m=>⟨?_,f⟩) (fun m=>?_)
    ·have g:lJ s=false:=by simpa using m
     rw [J,a0,g]; rfl
    ·have g:lJ s=true:=by simpa using m
     refine af f 1 rfl ar al rfl ?_;refine aJ D ah ?_;refine eP ?_;refine BM m ⟨?_,f⟩;rw [J,a0,g,eH,eH]
     congr 1
     rw [nZ];simp;omega
  intro t _ _ _ _ _ _ _ _ _ _ _ _ _ _ w';rintro ⟨rfl,f⟩;refine aD (fun a1=>?_) (fun a1=>?_)
  ·have O:eB (.mk k n s ks)=false:=by simpa using a1
   exact l (false,c+1) f rfl (G _ (by rw [ag N,ai B,O]; rfl))
  ·have O:eB (.mk k n s ks)=true:=by simpa using a1
   refine af f 1 rfl ar al rfl ?_;refine mP ?_;have a3:Cb Tryz.prog Qv Tryz.f204 [.pointer (some ⟨U,0,none⟩),.pointer (some ⟨V,0,none⟩)] S
     (fun c:Int=>[lz bc c,.blk U (.cells #[.int .i64 a] cO),.blk V (.cells #[.pointer (some ⟨bc,0,none⟩)] qY)]) (fun c=>0<=c/\c<=120)
     (fun c t=>(!(fV t (a+1) c).1,(fV t (a+1) c).2)) (fun v x=>∃ cs,v=.agg cs.toArray/\RdT S cs x) ks:=by
    refine ⟨OP,Ml,fun st x _ Z hf=>?_,fun st x v hx Z=>?_⟩
    ·have:=Oe x (a+1) st Z.2 (by simpa using hf);omega
    ·rintro ⟨cs,rfl,a2⟩ w1 f;have hl:=a2.length;refine BX.2 ?_;dsimp only[BX,fQ];refine bJ f fun b w' f=>?_;refine aC f 3 ad rfl (by simpa [Value.cells] using hl) ?_;refine aT f 1 aG rfl rfl ?_;refine bC (by omega) ?_;refine aT f 2 LZ rfl rfl ?_;have f:=f.perm (M:=[.blk U (.cells #[.int .i64 a] cO),.blk V (.cells #[.pointer (some ⟨bc,0,none⟩)] qY),.blk b (.cells (Value.agg cs.toArray).cells ab)]++[lz bc st])
      (cj (l₁:=[_,_,_]) (l₂:=[lz bc st]))
     refine Run.call Jx JA f (ih x hx S cs (a+1) st bc a2 (by omega) (by omega) Z.1 Z.2) fun Y I' S' w'=>?_;rintro ⟨rfl,rfl,rfl⟩ _ f;refine cw ?_;have f:=(f.perm (M:=[lz bc (fV x (a+1) st).2]++[.blk U (.cells #[.int .i64 a] cO),.blk V (.cells #[.pointer (some ⟨bc,0,none⟩)] qY),.blk b (.cells (Value.agg cs.toArray).cells ab)])
      cj).pick [true,true,true,false]
     exact ⟨_,_,_,rfl,f,Ext.refl _ _ _,rfl,rfl,rfl⟩
   have f:=f.perm (M:=[.blk b3 (.cells #[.int .i64 k,.int .i64 n,.string s,kv] ab)]++[lz bc (c+1),.blk U (.cells #[.int .i64 a] cO),.blk V (.cells #[.pointer (some ⟨bc,0,none⟩)] qY)]) (List.Perm.swap _ _ _);refine Run.call eJ eL f (gY a3 D ⟨by omega,by omega⟩) fun Y I' S' w'=>?_;rintro ⟨rfl,rfl,rfl⟩ _ f;refine cw ?_;rw [I0] at f ⊢;have f:=f.perm (M:=[lz bc (mp ks (a+1) (c+1)).2,.blk b3 (.cells #[.int .i64 k,.int .i64 n,.string s,kv] ab),.blk U (.cells #[.int .i64 a] cO),.blk V (.cells #[.pointer (some ⟨bc,0,none⟩)] qY)]) (List.Perm.swap _ _ _);refine l (mp ks (a+1) (c+1)) f (by simp) (G _ (by rw [ag N,ai B,O]; rfl))
 ·exact l (false,c+1) f rfl (G _ (by rw [ag N,ag B]))

theorem pC {t:T} {S:ae} {cs:List Value} (h:RdT S cs t):Pure Tryz.prog HN [.agg cs.toArray] S (.bool (d6 t)):=by
 intro w a;have hl:=h.length;refine tE.2 ?_;dsimp only[tE,aO];refine bJ a fun g w' a=>?_;refine aQ a UX fun f w' a=>?_;refine dy a 1 (n:=1) rfl (by rw [aG]; rfl) rfl (mL rfl) (by simp [Value.cells]; rfl) fun w' a=>?_;refine aC a 0 ad rfl (by simpa [Value.cells] using hl) ?_;refine Run.call (A:=[_]) (I:=[lz f 0]) Jx JA a (Py t S cs 1 0 f h (by omega) (by omega) (by omega) (by omega)) fun i I' S' w'=>?_;rintro ⟨rfl,rfl,rfl⟩ _ a;exact done a (by rw [Px])
end
section
open Go Go.RowKit
attribute [local irreducible] Run CondV aq aK

def sj:List ByteArray:=[⟨#[61]⟩,⟨#[92,61]⟩,⟨#[61,61]⟩,⟨#[60]⟩,⟨#[62]⟩,⟨#[61,60]⟩,⟨#[62,61]⟩,⟨#[61,58,61]⟩,⟨#[105,115]⟩]
def rf:List ByteArray:=[⟨#[116,114,117,101]⟩,⟨#[102,97,105,108]⟩]
def wz:List ByteArray:=[⟨#[118,97,114]⟩,⟨#[110,111,110,118,97,114]⟩,⟨#[97,116,111,109]⟩,⟨#[105,110,116]⟩]
def yi:List ByteArray:=[⟨#[43]⟩,⟨#[45]⟩]
def nh:List ByteArray:=[⟨#[42]⟩,⟨#[47,47]⟩,⟨#[109,111,100]⟩]
def di (s:ByteArray) (l:List ByteArray):Bool:=l.any fun x=>decide (s=x)
def eT (s:ByteArray) (n:Int):Bool:=
 if di s sj=true then decide (n=2)
 else if di s rf=true then decide (n=0)
 else if di s wz=true then decide (n=1)
 else if s=⟨#[97,114,103]⟩ then decide (n=3)
 else false
def cS (s:ByteArray):Int:=if di s sj=true then 3 else if di s yi=true then 2 else if di s nh=true then 1 else 0
def ez (t:T):Bool:=decide (t.kind=3) && (decide (t.name=⟨#[33]⟩) && decide (t.kids.length=0))
def VG (t:T):Bool:=decide (t.kind=3) && decide (t.kids.length=0)
def bU (t:T):Bool:=decide (t.kind=3) && eT t.name t.kids.length
def dI (t:T):Bool:=decide (t.kind=3) && (my t.name && (!eT t.name t.kids.length && decide (cS t.name=0)))
def eN (t:T):Bool:=d6 t && (ez t || (dI t || bU t))
def bt (c:C):Bool:=decide (c.body.length<=6) && (c.body.all eN && (d6 c.head && dI c.head))
def dZ (l:List T):Bool:=decide (l.length<=6) && l.all eN
def dc (p:List C):Bool:=decide (p.length<=20) && p.all bt
theorem SX (s:ByteArray):(!decide (0<cS s))=decide (cS s=0):=by
 unfold cS;split
 ·rfl
 ·split
  ·rfl
  ·split <;> rfl

theorem oZ (s:ByteArray) (n:Int) (S:ae):Pure Tryz.prog Hy [.string s,.int .i64 n] S (.bool (eT s n)):=by
 intro w g;refine uu.2 ?_;dsimp only[uu,bm];obtain ⟨q,a⟩:∃ q,di s sj=q:=⟨_,rfl⟩
 have f:=a;refine ⟨fun t w'=>t=.bool q/\Inv w [] [] S w',?_,?_⟩
 ·unfold di sj at a
  iterate 8
   refine bQ ?_;refine aD (fun h=>⟨by rw [fB,h] at a; rw [h,<- a]; rfl,g⟩) (fun h=>?_);rw [fB,h,iz] at a
  refine bQ ⟨?_,g⟩;rw [<- a]; simp
 intro t _ _ _ _ _ _ _ _ _ w';rintro ⟨rfl,g⟩;refine aD (fun h=>?_) (fun h=>?_)
 ·exact bw (done g (by rw [eT,ai (f.trans h)]))
 have e1:eT s n=if di s rf=true then decide (n=0) else if di s wz=true then decide (n=1) else if s=⟨#[97,114,103]⟩ then decide (n=3) else false:=by
  rw [eT,ag (by rw [f,h]; decide)]
 clear a f h;obtain ⟨q,a⟩:∃ q,di s rf=q:=⟨_,rfl⟩
 have f:=a;refine ⟨fun t w'=>t=.bool q/\Inv w [] [] S w',?_,?_⟩
 ·unfold di rf at a;refine bQ ?_;refine aD (fun h=>⟨by rw [fB,h] at a; rw [h,<- a]; rfl,g⟩) (fun h=>?_);rw [fB,h,iz] at a;refine bQ ⟨?_,g⟩;rw [<- a]; simp
 intro _ t _ w';rintro ⟨rfl,g⟩;refine aD (fun h=>?_) (fun h=>?_)
 ·exact bw (done g (by rw [e1,ai (f.trans h)]))
 rw [ag (by rw [f,h]; decide)] at e1;clear a f h;obtain ⟨q,a⟩:∃ q,di s wz=q:=⟨_,rfl⟩
 have f:=a;refine ⟨fun t w'=>t=.bool q/\Inv w [] [] S w',?_,?_⟩
 ·unfold di wz at a
  iterate 3
   refine bQ ?_;refine aD (fun h=>⟨by rw [fB,h] at a; rw [h,<- a]; rfl,g⟩) (fun h=>?_);rw [fB,h,iz] at a
  refine bQ ⟨?_,g⟩;rw [<- a]; simp
 intro _ _ _ t _ w';rintro ⟨rfl,g⟩;refine aD (fun h=>?_) (fun h=>?_)
 ·exact bw (done g (by rw [e1,ai (f.trans h)]))
 rw [ag (by rw [f,h]; decide)] at e1;refine bQ ?_;refine aL (fun h=>?_) (fun h=>?_)
 ·exact bw (done g (by rw [e1,ai h]))
 ·exact done g (by rw [e1,ag h])
theorem Az (s:ByteArray) (n:Int) (S:ae):Pure Tryz.prog Ho [.string s,.int .i64 n] S (.bool (eT s n)):=by
 intro w g;refine s9.2 ?_;dsimp only[s9,bm];obtain ⟨q,a⟩:∃ q,di s sj=q:=⟨_,rfl⟩
 have f:=a;refine ⟨fun t w'=>t=.bool q/\Inv w [] [] S w',?_,?_⟩
 ·unfold di sj at a
  iterate 8
   refine bQ ?_;refine aD (fun h=>⟨by rw [fB,h] at a; rw [h,<- a]; rfl,g⟩) (fun h=>?_);rw [fB,h,iz] at a
  refine bQ ⟨?_,g⟩;rw [<- a]; simp
 intro t _ _ _ _ _ _ _ _ _ w';rintro ⟨rfl,g⟩;refine aD (fun h=>?_) (fun h=>?_)
 ·exact bw (done g (by rw [eT,ai (f.trans h)]))
 have e1:eT s n=if di s rf=true then decide (n=0) else if di s wz=true then decide (n=1) else if s=⟨#[97,114,103]⟩ then decide (n=3) else false:=by
  rw [eT,ag (by rw [f,h]; decide)]
 clear a f h;obtain ⟨q,a⟩:∃ q,di s rf=q:=⟨_,rfl⟩
 have f:=a;refine ⟨fun t w'=>t=.bool q/\Inv w [] [] S w',?_,?_⟩
 ·unfold di rf at a;refine bQ ?_;refine aD (fun h=>⟨by rw [fB,h] at a; rw [h,<- a]; rfl,g⟩) (fun h=>?_);rw [fB,h,iz] at a;refine bQ ⟨?_,g⟩;rw [<- a]; simp
 intro _ t _ w';rintro ⟨rfl,g⟩;refine aD (fun h=>?_) (fun h=>?_)
 ·exact bw (done g (by rw [e1,ai (f.trans h)]))
 rw [ag (by rw [f,h]; decide)] at e1;clear a f h;obtain ⟨q,a⟩:∃ q,di s wz=q:=⟨_,rfl⟩
 have f:=a;refine ⟨fun t w'=>t=.bool q/\Inv w [] [] S w',?_,?_⟩
 ·unfold di wz at a
  iterate 3
   refine bQ ?_;refine aD (fun h=>⟨by rw [fB,h] at a; rw [h,<- a]; rfl,g⟩) (fun h=>?_);rw [fB,h,iz] at a
  refine bQ ⟨?_,g⟩;rw [<- a]; simp
 intro _ _ _ t _ w';rintro ⟨rfl,g⟩;refine aD (fun h=>?_) (fun h=>?_)
 ·exact bw (done g (by rw [e1,ai (f.trans h)]))
 rw [ag (by rw [f,h]; decide)] at e1;refine bQ ?_;refine aL (fun h=>?_) (fun h=>?_)
 ·exact bw (done g (by rw [e1,ai h]))
 ·exact done g (by rw [e1,ag h])

theorem eG (s:ByteArray) (S:ae):Pure Tryz.prog M5 [.string s] S (.int .i64 (cS s)):=by
 intro w g;refine yx.2 ?_;dsimp only[yx,aO];obtain ⟨q,a⟩:∃ q,di s sj=q:=⟨_,rfl⟩
 have f:=a;refine ⟨fun t w'=>t=.bool q/\Inv w [] [] S w',?_,?_⟩
 ·unfold di sj at a
  iterate 8
   refine bQ ?_;refine aD (fun h=>⟨by rw [fB,h] at a; rw [h,<- a]; rfl,g⟩) (fun h=>?_);rw [fB,h,iz] at a
  refine bQ ⟨?_,g⟩;rw [<- a]; simp
 intro _ _ _ _ _ _ _ _ t _ w';rintro ⟨rfl,g⟩;refine aD (fun h=>?_) (fun h=>?_)
 ·exact done g (by rw [show cS s=3 from ai (f.trans h)] <;> rfl)
 have e1:cS s=if di s yi=true then 2 else if di s nh=true then 1 else 0:=by
  rw [cS,ag (by rw [f,h]; decide)]
 clear a f h;obtain ⟨q,a⟩:∃ q,di s yi=q:=⟨_,rfl⟩
 have f:=a;refine ⟨fun t w'=>t=.bool q/\Inv w [] [] S w',?_,?_⟩
 ·unfold di yi at a;refine bQ ?_;refine aD (fun h=>⟨by rw [fB,h] at a; rw [h,<- a]; rfl,g⟩) (fun h=>?_);rw [fB,h,iz] at a;refine bQ ⟨?_,g⟩;rw [<- a]; simp
 intro _ t _ w';rintro ⟨rfl,g⟩;refine aD (fun h=>?_) (fun h=>?_)
 ·exact done g (by rw [show cS s=2 from e1.trans (ai (f.trans h))] <;> rfl)
 rw [ag (by rw [f,h]; decide)] at e1;clear a f h;obtain ⟨q,a⟩:∃ q,di s nh=q:=⟨_,rfl⟩
 have f:=a;refine ⟨fun t w'=>t=.bool q/\Inv w [] [] S w',?_,?_⟩
 ·unfold di nh at a
  iterate 2
   refine bQ ?_;refine aD (fun h=>⟨by rw [fB,h] at a; rw [h,<- a]; rfl,g⟩) (fun h=>?_);rw [fB,h,iz] at a
  refine bQ ⟨?_,g⟩;rw [<- a]; simp
 intro _ _ t _ w';rintro ⟨rfl,g⟩;refine aD (fun h=>?_) (fun h=>?_)
 ·exact done g (by rw [show cS s=1 from e1.trans (ai (f.trans h))] <;> rfl)
 ·exact done g (by rw [show cS s=0 from e1.trans (ag (by rw [f,h]; decide))] <;> rfl)
theorem DU (s:ByteArray) (S:ae):Pure Tryz.prog ME [.string s] S (.tuple #[.int .i64 (cS s),.bool (decide (cS s=1) || decide (cS s=2))]):=by
 intro w g;refine xQ.2 ?_;dsimp only[xQ,aO];obtain ⟨q,a⟩:∃ q,di s sj=q:=⟨_,rfl⟩
 have f:=a;refine ⟨fun t w'=>t=.bool q/\Inv w [] [] S w',?_,?_⟩
 ·unfold di sj at a
  iterate 8
   refine bQ ?_;refine aD (fun h=>⟨by rw [fB,h] at a; rw [h,<- a]; rfl,g⟩) (fun h=>?_);rw [fB,h,iz] at a
  refine bQ ⟨?_,g⟩;rw [<- a]; simp
 intro _ _ _ _ _ _ _ _ t _ w';rintro ⟨rfl,g⟩;refine aD (fun h=>?_) (fun h=>?_)
 ·exact done g (by rw [show cS s=3 from ai (f.trans h)] <;> rfl)
 have e1:cS s=if di s yi=true then 2 else if di s nh=true then 1 else 0:=by
  rw [cS,ag (by rw [f,h]; decide)]
 clear a f h;obtain ⟨q,a⟩:∃ q,di s yi=q:=⟨_,rfl⟩
 have f:=a;refine ⟨fun t w'=>t=.bool q/\Inv w [] [] S w',?_,?_⟩
 ·unfold di yi at a;refine bQ ?_;refine aD (fun h=>⟨by rw [fB,h] at a; rw [h,<- a]; rfl,g⟩) (fun h=>?_);rw [fB,h,iz] at a;refine bQ ⟨?_,g⟩;rw [<- a]; simp
 intro _ t _ w';rintro ⟨rfl,g⟩;refine aD (fun h=>?_) (fun h=>?_)
 ·exact done g (by rw [show cS s=2 from e1.trans (ai (f.trans h))] <;> rfl)
 rw [ag (by rw [f,h]; decide)] at e1;clear a f h;obtain ⟨q,a⟩:∃ q,di s nh=q:=⟨_,rfl⟩
 have f:=a;refine ⟨fun t w'=>t=.bool q/\Inv w [] [] S w',?_,?_⟩
 ·unfold di nh at a
  iterate 2
   refine bQ ?_;refine aD (fun h=>⟨by rw [fB,h] at a; rw [h,<- a]; rfl,g⟩) (fun h=>?_);rw [fB,h,iz] at a
  refine bQ ⟨?_,g⟩;rw [<- a]; simp
 intro _ _ t _ w';rintro ⟨rfl,g⟩;refine aD (fun h=>?_) (fun h=>?_)
 ·exact done g (by rw [show cS s=1 from e1.trans (ai (f.trans h))] <;> rfl)
 ·exact done g (by rw [show cS s=0 from e1.trans (ag (by rw [f,h]; decide))] <;> rfl)

theorem CY {t:T} {S:ae} {cs:List Value} (h:RdT S cs t):Pure Tryz.prog TJ [.agg cs.toArray] S (.bool (ez t)):=by
 intro w a;obtain ⟨kv,rfl,_,_,g,f⟩:=RdT.iff.1 h;obtain ⟨k,n,s,ks⟩:=t;simp only [T.name,T.kids,T.kind,T.n] at g f ⊢;refine G8.2 ?_;dsimp only[G8,aO];refine bJ a fun i w' a=>?_;refine af a 0 rfl aW aG rfl ?_;refine bw ?_;rw [show ez (.mk k n s ks)=(decide (k=3) && (decide (s=⟨#[33]⟩) && decide (ks.length=0))) from rfl];cases l:decide (k=3)
 ·refine rpG ?_;exact done a rfl
 ·refine rpG ?_;refine af a 0 rfl bl be rfl ?_;refine bQ ?_;cases m:decide (s=⟨#[33]⟩)
  ·refine rpG ?_;exact done a rfl
  ·refine rpG ?_;refine af a 0 rfl ar al rfl ?_;refine aJ f ah ?_;refine bw ?_;refine rpG ?_;exact done a (by simp)

theorem ou {t:T} {S:ae} {cs:List Value} (h:RdT S cs t):Pure Tryz.prog MM [.agg cs.toArray] S (.bool (dI t)):=by
 intro w a;obtain ⟨kv,rfl,_,_,g,f⟩:=RdT.iff.1 h;obtain ⟨k,n,s,ks⟩:=t;simp only [T.name,T.kids,T.kind,T.n] at g f ⊢;refine xU.2 ?_;dsimp only[xU,aO];refine bJ a fun i w' a=>?_;refine af a 0 rfl aW aG rfl ?_;refine bw ?_;rw [show dI (.mk k n s ks)=(decide (k=3) && (my s && (!eT s ks.length && decide (cS s=0)))) from rfl];cases l:decide (k=3)
 ·refine rpG ?_;exact done a rfl
 ·refine rpG ?_;refine af a 0 rfl bl be rfl ?_;refine Run.callPure Dg B9 a (xO s g S) fun w' a=>?_;cases m:my s
  ·refine rpG ?_;exact done a rfl
  ·refine rpG ?_;refine af a 0 rfl bl be rfl ?_;refine af a 0 rfl ar al rfl ?_;refine aJ f ah ?_;refine Run.callPure uD te a (oZ s _ S) fun w' a=>?_;refine cw ?_;cases o:eT s ks.length
   ·refine rpG ?_;refine af a 0 rfl bl be rfl ?_;refine Run.callPure gi gg a (eG s S) fun w' a=>?_;refine bw ?_;refine rpG ?_;exact done a rfl
   ·refine rpG ?_;exact done a rfl

theorem K8 {t:T} {S:ae} {cs:List Value} (h:RdT S cs t):Pure Tryz.prog Pu [.agg cs.toArray] S (.bool (ez t || (dI t || bU t))):=by
 intro w a;have g:=h;obtain ⟨kv,rfl,_,_,i,f⟩:=RdT.iff.1 h;obtain ⟨k,n,s,ks⟩:=t;simp only [T.name,T.kids,T.kind,T.n] at g i f ⊢;refine BQ.2 ?_;dsimp only[BQ,aO];refine bJ a fun l w' a=>?_;refine aC a 0 ad rfl rfl ?_;refine Run.callPure G6 Hh a (CY g) fun w' a=>?_;cases m:ez (.mk k n s ks)
 ·refine rpG ?_;refine aC a 0 ad rfl rfl ?_;refine Run.callPure qz rj a (ou g) fun w' a=>?_;cases o:dI (.mk k n s ks)
  ·refine rpG ?_;refine af a 0 rfl aW aG rfl ?_;refine bw ?_;rw [show bU (.mk k n s ks)=(decide (k=3) && eT s ks.length) from rfl];cases q:decide (k=3)
   ·refine rpG ?_;exact done a rfl
   ·refine rpG ?_;refine af a 0 rfl bl be rfl ?_;refine af a 0 rfl ar al rfl ?_;refine aJ f ah ?_;refine Run.callPure uD te a (oZ s _ S) fun w' a=>?_;refine rpG ?_;exact done a rfl
  ·refine rpG ?_;exact done a rfl
 ·refine rpG ?_;exact done a rfl

theorem RA {t:T} (h:wT t<=1048576):dF t<=4611686018427387904:=by
 have:=VU t;omega
theorem o9 {t:T} {S:ae} {cs:List Value} (h:RdT S cs t) (hc:wT t<=1048576):Pure Tryz.prog HM [.agg cs.toArray] S (.bool (eN t)):=by
 intro w a;have hl:=h.length;refine sP.2 ?_;dsimp only[sP,aO];refine bJ a fun f w' a=>?_;refine aC a 0 ad rfl (by simpa [Value.cells] using hl) ?_;refine Run.callPure s8 sF a (px h (RA hc)) fun w' a=>?_;rw [eN];cases g:d6 t
 ·refine rpG ?_;exact done a rfl
 ·refine rpG ?_;refine aC a 0 ad rfl (by simpa [Value.cells] using hl) ?_;refine Run.callPure Nl MC a (K8 h) fun w' a=>?_;refine rpG ?_;exact done a rfl


theorem nY {ts:List T} {t:T} (h:t∈ts):wT t<=wL ts:=by
 induction ts with
 | nil=>simp at h
 | cons u us a=>
  rw [wL];rcases bY.1 h with rfl|h
  ·omega
  ·have:=a h; omega
theorem iY {c:C} {S:ae} {cs:List Value} (h:RdC S cs c) (hc:wC c<=1048576):Pure Tryz.prog Dw [.agg cs.toArray] S (.bool (bt c)):=by
 intro w a;obtain ⟨hd,ks,rfl,O,J⟩:=h;have B:=O;obtain ⟨kv,rfl,g1,g2,g3,g4⟩:=RdT.iff.1 O;have D:=J.le;simp only [maxLen] at D;unfold wC at hc;refine pD.2 ?_;dsimp only[pD,aO];refine bJ a fun N w' a=>?_;refine ⟨fun i w'=>∃ k:Nat,k<=c.body.length/\k<=7/\i=.int .i64 k/\(∀ j (h:j<c.body.length),j<k->eN c.body[j]=true)/\Inv w [] [.blk N (.cells #[.int .i64 c.head.kind,.int .i64 c.head.n,.string c.head.name,kv,ks] ac)] S w',
  fun i _=>c.body.length - (intOf i).toNat,⟨0,bk _,by omega,rfl,fun j _ h=>by omega,a⟩,?_⟩
 intro t3 _ _ _ _ _ _ _ _ _ _ _ _ _ _ _ _ _ _ _ w';rintro ⟨k,hk,U,rfl,q,a⟩;refine ⟨fun t w'=>t=.bool (decide (k<c.body.length/\k<=6))/\Inv w [] [.blk N (.cells #[.int .i64 c.head.kind,.int .i64 c.head.n,.string c.head.name,kv,ks] ac)] S w',?_,?_⟩
 ·refine af a 0 rfl aU al rfl ?_;refine aJ J ah ?_;refine bS ?_;by_cases g:(k:Int)<c.body.length
  ·rw [aN g];refine rpG ?_;refine fU ?_;refine rpG ?_;refine ⟨?_,a⟩
   congr 1
   rw [nZ]; simp; omega
  ·rw [ba g];refine rpG ?_;exact ⟨by rw [ba (by omega)],a⟩
 intro t _ _ _ _ _ _ _ _ w';rintro ⟨rfl,a⟩;refine aL (fun g=>?_) (fun g=>?_)
 ·obtain ⟨m,a0⟩:=g;refine af a 0 rfl aU al rfl ?_;refine co a J ah ad m (fun _ _=>RdT.length) fun Y r=>?_;have a1:=nY (bG m);refine Run.callPure tA s3 a (o9 r (by omega)) fun w' a=>?_;refine cw ?_;refine aD (fun M=>done a ?_) (fun M=>?_)
  ·have o:eN c.body[k]=false:=by simpa using M
   have:c.body.all eN=false:=by
    rw [<- Ok,dD];intro f;rw [f _ (bG m)] at o;cases o
   rw [bt,this];simp
  ·have o:eN c.body[k]=true:=by simpa using M
   refine bC (by omega) ?_;refine ⟨⟨k+1,m,by omega,rfl,fun j l Z=>?_,a⟩,by simp [intOf]; omega⟩;by_cases e:j=k
   ·subst e; exact o
   ·exact q j l (by omega)
 ·refine af a 0 rfl aU al rfl ?_;refine aJ J ah ?_;refine fU ?_;rw [bt];by_cases G:c.body.length<=6
  ·have f:c.body.all eN=true:=by
    rw [dD];intro x V;obtain ⟨j,l,rfl⟩:=B0 V;exact q j l (by omega)
   rw [aN (show (c.body.length:Int)<=6 by omega),aN G,f];refine rpG ?_;refine aw bO ?_;refine dC a 0 [.int .i64 c.head.kind,.int .i64 c.head.n,.string c.head.name,kv] ad rfl rfl ?_ ?_
   ·intro j v l
    match j with
    | 0|1|2|3=>exact l
    | j+4=>simp at l
   refine Run.callPure s8 sF a (px B (RA (by omega))) fun w' a=>?_;cases hv:d6 c.head
   ·refine rpG ?_;exact done a rfl
   ·refine rpG ?_;refine aw bO ?_;refine dC a 0 [.int .i64 c.head.kind,.int .i64 c.head.n,.string c.head.name,kv] ad rfl rfl ?_ ?_
    ·intro j v l
     match j with
     | 0|1|2|3=>exact l
     | j+4=>simp at l
    refine Run.callPure qz rj a (ou B) fun w' a=>?_;refine rpG ?_;exact done a rfl
  ·rw [ba (show ¬ (c.body.length:Int)<=6 by omega),ba G];refine rpG ?_;exact done a rfl

theorem xp {xs:List T} {S:ae} {v:Value} (h:RdSl S 4 (RdT S) v xs) (hc:wL xs<=1048576):Pure Tryz.prog Gt [v] S (.bool (dZ xs)):=by
 intro w a;have r:=h.le;simp only [maxLen] at r;refine rl.2 ?_;dsimp only[rl,aO];refine ⟨fun i w'=>∃ k:Nat,k<=xs.length/\k<=6+1/\i=.int .i64 k/\(∀ j (h:j<xs.length),j<k->eN xs[j]=true)/\Inv w [] [] S w',
  fun i _=>xs.length - (intOf i).toNat,⟨0,bk _,by omega,rfl,fun j _ h=>by omega,a⟩,?_⟩
 intro Y _ _ _ _ _ _ _ _ _ _ _ _ _ _ _ _ _ w';rintro ⟨k,hk,J,rfl,o,a⟩;refine ⟨fun t w'=>t=.bool (decide (k<xs.length/\k<=6))/\Inv w [] [] S w',?_,?_⟩
 ·refine aJ h ah ?_;refine bS ?_;by_cases g:(k:Int)<xs.length
  ·rw [aN g];refine rpG ?_;refine fU ?_;refine rpG ?_;refine ⟨?_,a⟩
   congr 1
   rw [nZ]; simp; omega
  ·rw [ba g];refine rpG ?_;exact ⟨by rw [ba (by omega)],a⟩
 intro t _ _ _ _ _ _ _ w';rintro ⟨rfl,a⟩;refine aL (fun g=>?_) (fun g=>?_)
 ·obtain ⟨l,U⟩:=g;refine co a h ah ad l (fun _ _=>RdT.length) fun N q=>?_;have V:=nY (bG l);refine Run.callPure tA s3 a (o9 q (by omega)) fun w' a=>?_;refine cw ?_;refine aD (fun D=>done a ?_) (fun D=>?_)
  ·have m:eN xs[k]=false:=by simpa using D
   have:xs.all eN=false:=by
    rw [<- Ok,dD];intro f;rw [f _ (bG l)] at m;cases m
   rw [dZ,this,y5]
  ·have m:eN xs[k]=true:=by simpa using D
   refine bC (by omega) ?_;refine ⟨⟨k+1,l,by omega,rfl,fun j G O=>?_,a⟩,by simp [intOf]; omega⟩;by_cases e:j=k
   ·subst e; exact m
   ·exact o j G (by omega)
 ·refine aJ h ah ?_;refine fU ?_;rw [dZ];refine done a ?_;by_cases B:xs.length<=6
  ·have f:xs.all eN=true:=by
    rw [dD];intro x M;obtain ⟨j,G,rfl⟩:=B0 M;exact o j G (by omega)
   rw [aN (show (xs.length:Int)<=6 by omega),aN B,f]; rfl
  ·rw [ba (show ¬ (xs.length:Int)<=6 by omega),ba B]; rfl
theorem lb {xs:List C} {S:ae} {v:Value} (h:RdSl S 5 (RdC S) v xs) (hc:wP xs<=1048576):Pure Tryz.prog AU [v] S (.bool (dc xs)):=by
 intro w a;have r:=h.le;simp only [maxLen] at r;refine np.2 ?_;dsimp only[np,aO];refine ⟨fun i w'=>∃ k:Nat,k<=xs.length/\k<=20+1/\i=.int .i64 k/\(∀ j (h:j<xs.length),j<k->bt xs[j]=true)/\Inv w [] [] S w',
  fun i _=>xs.length - (intOf i).toNat,⟨0,bk _,by omega,rfl,fun j _ h=>by omega,a⟩,?_⟩
 intro Y _ _ _ _ _ _ _ _ _ _ _ _ _ _ _ _ _ w';rintro ⟨k,hk,J,rfl,o,a⟩;refine ⟨fun t w'=>t=.bool (decide (k<xs.length/\k<=20))/\Inv w [] [] S w',?_,?_⟩
 ·refine aJ h bf ?_;refine bS ?_;by_cases g:(k:Int)<xs.length
  ·rw [aN g];refine rpG ?_;refine fU ?_;refine rpG ?_;refine ⟨?_,a⟩
   congr 1
   rw [nZ]; simp; omega
  ·rw [ba g];refine rpG ?_;exact ⟨by rw [ba (by omega)],a⟩
 intro t _ _ _ _ _ _ _ w';rintro ⟨rfl,a⟩;refine aL (fun g=>?_) (fun g=>?_)
 ·obtain ⟨l,U⟩:=g;refine co a h bf aH l (fun _ _=>RdC.length) fun N q=>?_;have V:=KT (bG l);refine Run.callPure kj kq a (iY q (by omega)) fun w' a=>?_;refine cw ?_;refine aD (fun D=>done a ?_) (fun D=>?_)
  ·have m:bt xs[k]=false:=by simpa using D
   have:xs.all bt=false:=by
    rw [<- Ok,dD];intro f;rw [f _ (bG l)] at m;cases m
   rw [dc,this,y5]
  ·have m:bt xs[k]=true:=by simpa using D
   refine bC (by omega) ?_;refine ⟨⟨k+1,l,by omega,rfl,fun j G O=>?_,a⟩,by simp [intOf]; omega⟩;by_cases e:j=k
   ·subst e; exact m
   ·exact o j G (by omega)
 ·refine aJ h bf ?_;refine fU ?_;rw [dc];refine done a ?_;by_cases B:xs.length<=20
  ·have f:xs.all bt=true:=by
    rw [dD];intro x M;obtain ⟨j,G,rfl⟩:=B0 M;exact o j G (by omega)
   rw [aN (show (xs.length:Int)<=20 by omega),aN B,f]; rfl
  ·rw [ba (show ¬ (xs.length:Int)<=20 by omega),ba B]; rfl

theorem QG (s:ByteArray) (S:ae):Pure Tryz.prog V4 [.string s] S (.bool (decide (0<cS s))):=by
 intro w a;refine IY.2 ?_;dsimp only[IY,aO];refine Run.callPure Kr LG a (DU s S) fun w' a=>?_;refine av rfl ?_;refine av rfl ?_;refine eP ?_;exact done a rfl
theorem oI {t:T} {S:ae} {cs:List Value} (h:RdT S cs t):Pure Tryz.prog Ng [.agg cs.toArray] S (.bool (bU t)):=by
 intro w a;obtain ⟨kv,rfl,_,_,g,f⟩:=RdT.iff.1 h;obtain ⟨k,n,s,ks⟩:=t;simp only [T.name,T.kids,T.kind,T.n] at g f ⊢;refine zH.2 ?_;dsimp only[zH,aO];refine bJ a fun i w' a=>?_;refine af a 0 rfl aW aG rfl ?_;refine bw ?_;rw [show bU (.mk k n s ks)=(decide (k=3) && eT s ks.length) from rfl];cases l:decide (k=3)
 ·refine rpG ?_;exact done a rfl
 ·refine rpG ?_;refine af a 0 rfl bl be rfl ?_;refine af a 0 rfl ar al rfl ?_;refine aJ f ah ?_;refine Run.callPure Gn GV a (Az s _ S) fun w' a=>?_;refine rpG ?_;exact done a rfl
theorem oH {t:T} {S:ae} {cs:List Value} (h:RdT S cs t):Pure Tryz.prog MW [.agg cs.toArray] S (.bool (dI t)):=by
 intro w a;have i:=h;obtain ⟨kv,rfl,_,_,g,f⟩:=RdT.iff.1 h;obtain ⟨k,n,s,ks⟩:=t;simp only [T.name,T.kids,T.kind,T.n] at i g f ⊢;refine zo.2 ?_;dsimp only[zo,aO];refine bJ a fun o w' a=>?_;refine af a 0 rfl aW aG rfl ?_;refine bw ?_;have l:bU (.mk k n s ks)=(decide (k=3) && eT s ks.length):=rfl;rw [show dI (.mk k n s ks)=(decide (k=3) && (my s && (!eT s ks.length && decide (cS s=0)))) from rfl];cases m:decide (k=3)
 ·refine rpG ?_;exact done a rfl
 ·rw [m] at l;refine rpG ?_;refine af a 0 rfl bl be rfl ?_;refine Run.callPure tQ uf a (r3 s g S) fun w' a=>?_;cases q:my s
  ·refine rpG ?_;exact done a rfl
  ·refine rpG ?_;refine af a 0 rfl bl be rfl ?_;refine Run.callPure SR SG a (QG s S) fun w' a=>?_;refine cw ?_;rw [SX];cases r:decide (cS s=0)
   ·refine rpG ?_;exact done a (by simp)
   ·refine rpG ?_;refine aC a 0 ad rfl rfl ?_;refine Run.callPure qo qR a (oI i) fun w' a=>?_;refine cw ?_;refine rpG ?_;exact done a (by rw [l]; simp)
theorem zA {t:T} {S:ae} {cs:List Value} (h:RdT S cs t):Pure Tryz.prog PP [.agg cs.toArray] S (.bool (VG t)):=by
 intro w a;obtain ⟨kv,rfl,_,_,g,f⟩:=RdT.iff.1 h;obtain ⟨k,n,s,ks⟩:=t;simp only [T.name,T.kids,T.kind,T.n] at g f ⊢;refine CN.2 ?_;dsimp only[CN,aO];refine bJ a fun i w' a=>?_;refine af a 0 rfl aW aG rfl ?_;refine bw ?_;rw [show VG (.mk k n s ks)=(decide (k=3) && decide (ks.length=0)) from rfl];cases l:decide (k=3)
 ·refine rpG ?_;exact done a rfl
 ·refine rpG ?_;refine af a 0 rfl ar al rfl ?_;refine aJ f ah ?_;refine bw ?_;refine rpG ?_;exact done a (by simp)
theorem uA {t:T} {S:ae} {cs:List Value} (h:RdT S cs t):Pure Tryz.prog JI [.agg cs.toArray] S (.bool (ez t)):=by
 intro w f;have i:=h;obtain ⟨kv,rfl,_,_,l,g⟩:=RdT.iff.1 h;obtain ⟨k,n,s,ks⟩:=t;simp only [T.name,T.kids,T.kind,T.n] at i l g ⊢;refine Ge.2 ?_;dsimp only[Ge,aO];refine bJ f fun o w' f=>?_;refine aC f 0 ad rfl rfl ?_;refine Run.callPure Cn Dd f (zA i) fun w' f=>?_;rw [show ez (.mk k n s ks)=(decide (k=3) && (decide (s=⟨#[33]⟩) && decide (ks.length=0))) from rfl];cases a:VG (.mk k n s ks)
 ·refine rpG ?_;refine done f ?_
  replace a:(decide (k=3) && decide (ks.length=0))=false:=a
  cases m:decide (k=3)
  ·rfl
  ·rw [m,eH] at a;rw [a,y5]; rfl
 ·refine rpG ?_;refine af f 0 rfl bl be rfl ?_;refine bQ ?_;refine rpG ?_;refine done f ?_
  replace a:(decide (k=3) && decide (ks.length=0))=true:=a
  rw [bM] at a;rw [a.1,a.2]; simp
theorem Bw {t:T} {S:ae} {cs:List Value} (h:RdT S cs t):Pure Tryz.prog Ij [.agg cs.toArray] S (.bool (eN t)):=by
 intro w a;have hl:=h.length;refine sR.2 ?_;dsimp only[sR,aO];refine bJ a fun f w' a=>?_;refine aC a 0 ad rfl (by simpa [Value.cells] using hl) ?_;refine Run.callPure tV sB a (pC h) fun w' a=>?_;rw [eN];cases g:d6 t
 ·refine rpG ?_;exact done a rfl
 ·refine rpG ?_;refine aC a 0 ad rfl (by simpa [Value.cells] using hl) ?_;refine Run.callPure qn qD a (oH h) fun w' a=>?_;cases i:dI t
  ·refine rpG ?_;refine aC a 0 ad rfl (by simpa [Value.cells] using hl) ?_;refine Run.callPure qo qR a (oI h) fun w' a=>?_;cases l:bU t
   ·refine rpG ?_;refine aC a 0 ad rfl (by simpa [Value.cells] using hl) ?_;refine Run.callPure wX xl a (uA h) fun w' a=>?_;refine rpG ?_;exact done a (by simp)
   ·refine rpG ?_;exact done a (by simp)
  ·refine rpG ?_;exact done a (by simp)

theorem Ee {α:Type} (p:α->Bool):∀ xs:List α,(!xs.any fun x=>!p x)=xs.all p
 | []=>rfl
 | x::xs=>by
  rw [fB,IU,<- Ee p xs];cases p x <;> simp

theorem vi {x:T} {S:ae} {cs:List Value} (h:RdT S cs x):Pure Tryz.prog oN [.agg cs.toArray] S (.bool (!eN x)):=by
 intro w a;have hl:=h.length;refine nG.2 ?_;dsimp only[nG,aO];refine bJ a fun f w' a=>?_;refine aC a 0 ad rfl (by simpa [Value.cells] using hl) ?_;refine Run.callPure Hb F1 a (Bw h) fun w' a=>?_;refine cw (done a rfl)
theorem mW {xs:List T} {S:ae} {v:Value} (h:RdSl S 4 (RdT S) v xs):Pure Tryz.prog Gu [v] S (.bool (dZ xs)):=by
 intro w a;refine rV.2 ?_;dsimp only[rV,aO];refine aJ h ah ?_;refine fU ?_;rw [dZ];by_cases f:xs.length<=6
 ·rw [aN (show (xs.length:Int)<=6 by omega),aN f];refine rpG ?_;have i:Cb Tryz.prog oN _ [] S (fun _:Unit=>[]) (fun _=>True) (fun _ x=>(!eN x,())) (fun v x=>∃ cs,v=.agg cs.toArray/\RdT S cs x) xs:=
   Cb.pure [] zt zu fun x v _=>by
    rintro ⟨cs,rfl,g⟩ l a;exact (vi g l a).mono fun e w' ⟨m,a⟩=>⟨_,_,_,m,a,Ext.refl _ _ _,rfl,rfl,rfl⟩
  refine Run.call0 eJ eL a (gY i h (st:=()) trivial) fun o I' S' w'=>?_;rintro ⟨rfl,rfl,rfl⟩ _ a;refine cw ?_;refine rpG ?_;refine done a ?_;rw [jW (fun x=>!eN x) xs,Ee]; rfl
 ·rw [ba (show ¬ (xs.length:Int)<=6 by omega),ba f];refine rpG ?_;exact done a rfl
theorem mF {c:C} {S:ae} {cs:List Value} (h:RdC S cs c):Pure Tryz.prog DF [.agg cs.toArray] S (.bool (bt c)):=by
 intro w a;obtain ⟨hd,ks,rfl,l,m⟩:=h;have g:=l;obtain ⟨kv,rfl,q,r,t,B⟩:=RdT.iff.1 l;have i:bt c=(d6 c.head && (dI c.head && dZ c.body)):=by
  unfold bt dZ;cases d6 c.head <;> cases dI c.head <;> simp
 refine pm.2 ?_;dsimp only[pm,aO];rw [i];refine bJ a fun o w' a=>?_;refine aw bO ?_;refine dC a 0 [.int .i64 c.head.kind,.int .i64 c.head.n,.string c.head.name,kv] ad rfl rfl ?_ ?_
 ·intro j v f
  match j with
  | 0|1|2|3=>exact f
  | j+4=>simp at f
 refine Run.callPure tV sB a (pC g) fun w' a=>?_;cases D:d6 c.head
 ·refine rpG ?_;exact done a rfl
 ·refine rpG ?_;refine aw bO ?_;refine dC a 0 [.int .i64 c.head.kind,.int .i64 c.head.n,.string c.head.name,kv] ad rfl rfl ?_ ?_
  ·intro j v f
   match j with
   | 0|1|2|3=>exact f
   | j+4=>simp at f
  refine Run.callPure qn qD a (oH g) fun w' a=>?_;cases G:dI c.head
  ·refine rpG ?_;exact done a rfl
  ·refine rpG ?_;refine af a 0 rfl aU al rfl ?_;refine Run.callPure rK rA a (mW m) fun w' a=>?_;refine rpG ?_;exact done a rfl

theorem sw {x:C} {S:ae} {cs:List Value} (h:RdC S cs x):Pure Tryz.prog mB [.agg cs.toArray] S (.bool (!bt x)):=by
 intro w a;have hl:=h.length;refine lE.2 ?_;dsimp only[lE,aO];refine bJ a fun f w' a=>?_;refine aC a 0 aH rfl (by simpa [Value.cells] using hl) ?_;refine Run.callPure pl oX a (mF h) fun w' a=>?_;refine cw (done a rfl)
theorem iF {xs:List C} {S:ae} {v:Value} (h:RdSl S 5 (RdC S) v xs):Pure Tryz.prog Ag [v] S (.bool (dc xs)):=by
 intro w a;refine nL.2 ?_;dsimp only[nL,aO];refine aJ h bf ?_;refine fU ?_;rw [dc];by_cases f:xs.length<=20
 ·rw [aN (show (xs.length:Int)<=20 by omega),aN f];refine rpG ?_;have i:Cb Tryz.prog mB _ [] S (fun _:Unit=>[]) (fun _=>True) (fun _ x=>(!bt x,())) (fun v x=>∃ cs,v=.agg cs.toArray/\RdC S cs x) xs:=
   Cb.pure [] vh vt fun x v _=>by
    rintro ⟨cs,rfl,g⟩ l a;exact (sw g l a).mono fun e w' ⟨m,a⟩=>⟨_,_,_,m,a,Ext.refl _ _ _,rfl,rfl,rfl⟩
  refine Run.call0 ow oG a (rg i h (st:=()) trivial) fun o I' S' w'=>?_;rintro ⟨rfl,rfl,rfl⟩ _ a;refine cw ?_;refine rpG ?_;refine done a ?_;rw [jW (fun x=>!bt x) xs,Ee]; rfl
 ·rw [ba (show ¬ (xs.length:Int)<=20 by omega),ba f];refine rpG ?_;exact done a rfl
theorem zj {xs:List T} {S:ae} {v:Value} (h:RdSl S 4 (RdT S) v xs):Pure Tryz.prog Ga [v] S (.bool (dZ xs)):=by
 intro w a;refine rm.2 ?_;dsimp only[rm,aO];refine Run.callPure rK rA a (mW h) fun w' a=>done a rfl
end
section
open Go Go.RowKit
attribute [local irreducible] Run CondV aq aK

def RowRd (S:ae) (v:Value) (e:TypeId) (k n:Nat) (xs:List Value):Prop:=
 xs.length=n * k/\((v=.slice none 0 0/\n=0) ∨ ∃ g cap cur,v=.slice (some ⟨g,0,none⟩) n cap/\S g=some (.cells cur e)/\n<=cap/\cap<=maxLen/\cur.size=cap * k/\cur.toList.take (n * k)=xs)
theorem Inv.lend {w0 w:World} {X:List Nat} {A:List Item} {S:ae} {v:Value} {e:TypeId} {k n:Nat} {xs:List Value} (h:Inv w0 X (A++[.row v e k n xs]) S w) :
  ∃ S',Sle S S'/\RowRd S' v e k n xs/\Inv w0 X A S' w/\∀ B w',Inv w0 X B S' w'->Inv w0 X (B++[.row v e k n xs]) S w':=by
 have N:w.ownsRow 0 e k v n xs:=h.its (.row v e k n xs) (by simp);obtain ⟨hl,N⟩:=N;rcases N with ⟨rfl,rfl⟩|⟨g,cap,i,rfl,_,hg,D,G,J,U⟩
 ·have:xs=[]:=gF (by rw [hl,AZ]);subst this;exact ⟨S,Sle.refl S,⟨hl,.inl ⟨rfl,rfl⟩⟩,h.sub (dt _ _),fun B w' l=>l.rowNil e k⟩
 ·have hf:bP (A++[Item.blk g (.cells i e)])=bP (A++[Item.row (.slice (some ⟨g,0,none⟩) n cap) e k n xs]):=by
   simp [bP,Item.foot,Value.ownBlock]
  have q:g∈bP (A++[Item.row (.slice (some ⟨g,0,none⟩) n cap) e k n xs]):=by simp [bP,Item.foot,Value.ownBlock]
  have h':Inv w0 X (A++[Item.blk g (.cells i e)]) S w:=by
   refine ⟨h.size,h.os,h.tape,h.output,h.old,fun it hit=>?_,by rw [hf]; exact h.nd,by rw [hf]; exact h.new,by rw [hf]; exact h.pub⟩;rcases bF.1 hit with hit|hit
   ·exact h.its it (cZ _ hit)
   ·simp at hit;subst hit;exact hg
  obtain ⟨Y,Z⟩:=h'.publishLast;refine ⟨qc S g (.cells i e),Z,⟨hl,.inr ⟨g,cap,i,rfl,by simp [qc],D,G,J,U⟩⟩,Y,fun B w' l=>?_⟩;have r:=l.pub g (.cells i e) (by simp [qc]);have m:bP (B++[Item.row (.slice (some ⟨g,0,none⟩) n cap) e k n xs])=bP B++[g]:=by simp [bP,Item.foot,Value.ownBlock]
  refine ⟨l.size,l.os,l.tape,l.output,l.old,fun it hit=>?_,?_,?_,?_⟩
  ·rcases bF.1 hit with hit|hit
   ·exact l.its it hit
   ·simp at hit;subst hit;exact ⟨hl,.inr ⟨g,cap,i,rfl,bk _,r.1,D,G,J,U⟩⟩
  ·rw [m,oB];refine ⟨l.nd,by simp,fun a V b O=>?_⟩;simp at O;subst O;intro M;subst M;exact r.2 V
  ·intro c hc;rw [m] at hc;rcases bF.1 hc with hc|hc
   ·exact l.new c hc
   ·simp at hc;subst hc;exact h.new _ q
  ·intro c o hc;have t:c≠g:=fun M=>by
    subst M;exact (h.pub c o hc).2 q
   have:=l.pub c o (by simp only [qc]; rw [ag t]; exact hc);refine ⟨this.1,?_⟩;rw [m];intro f;rcases bF.1 f with f|f
   ·exact this.2 f
   ·simp at f;exact t f
theorem Ry {α:Type} (f:α->List Value) (k:Nat) (hf:∀ y,(f y).length=k):∀ (ys:List α) (i:Nat) (h:i<ys.length),((ys.flatMap f).drop (i * k)).take k=f ys[i]
 | [],i,h=>by simp at h
 | y::ys,0,h=>by
  rw [rQ,AZ,ym,Gf (by rw [hf]; exact aS _),Lj (by rw [hf]; exact aS _)];rfl
 | y::ys,i+1,h=>by
  rw [rQ,iX,sG,<- Rh,List.drop_left' (hf y)];exact Ry f k hf ys i (by simpa using h)
theorem RowRd.rd {α:Type} {S:ae} {v:Value} {e:TypeId} {k:Nat} {f:α->List Value} {R:List Value->α->Prop} {ys:List α} (hf:∀ y,(f y).length=k) (hR:∀ y∈ys,R (f y) y)
  (h:RowRd S v e k ys.length (ys.flatMap f)):RdSl S k R v ys:=by
 obtain ⟨hl,h⟩:=h;rcases h with ⟨rfl,r⟩|⟨g,cap,l,rfl,t,m,o,B,D⟩
 ·have:ys=[]:=gF r;subst this;exact ⟨none,0,rfl,aS _,bk _,.inl rfl⟩
 ·refine ⟨_,cap,rfl,m,o,.inr ⟨g,0,l,e,(0,0),rfl,t,fun i a=>?_⟩⟩;have:=Ry f k hf ys i a;have q:i * k+k<=ys.length * k:=by rw [<- iX]; exact gM k a
  rw [<- D,GU,lD,lw (by omega)] at this;rw [aX,cP,this];exact hR _ (bG a)

def ints (ns:List Int):List Value:=ns.flatMap fun n=>[.int .i64 n]
abbrev dk (v:Value) (ns:List Int):Item:=.row v cO 1 ns.length (ints ns)
theorem pZ (ns:List Int) (n:Int):ints ns++[.int .i64 n]=ints (ns++[n]):=by simp [ints]
theorem RowRd.ints {S:ae} {v:Value} {e:TypeId} {ns:List Int} (h:RowRd S v e 1 ns.length (ints ns)):RdSl S 1 jD v ns:=
 RowRd.rd (f:=fun n=>[Value.int .i64 n]) (fun _=>rfl) (fun _ _=>rfl) h
def vw (l:List Int) (n:Int):Bool:=l.any fun x=>decide (n=x)
def jr (l:List Int) (n:Int):List Int:=if vw l n=true then l else l++[n]
theorem Kx (l:List Int) (n:Int):(jr l n).length<=l.length+1:=by
 unfold jr;split <;> simp

theorem r7 (s:Int) {xs:List Int} {S:ae} {v:Value} (h:RdSl S 1 jD v xs) :
  Pure Tryz.prog HJ [v,.int .i64 s] S (.int .i64 (cn (σ:=Unit) (fun _ x=>(decide (s=x),())) () xs 0).1):=by
 intro w g;have l:=h.le;simp only [maxLen] at l;refine th.2 ?_;dsimp only[th,bm];refine aJ h cA ?_;refine ⟨fun i w'=>∃ k:Nat,k<=xs.length/\i=.int .i64 k/\cn (σ:=Unit) (fun _ x=>(decide (s=x),())) () (xs.drop k) k=cn (σ:=Unit) (fun _ x=>(decide (s=x),())) () xs 0/\Inv w [] [] S w',
  fun i _=>xs.length - (intOf i).toNat,⟨0,bk _,rfl,rfl,g⟩,?_⟩
 intro r _ _ _ _ _ _ _ _ _ _ _ _ w';rintro ⟨k,hk,rfl,a,g⟩;refine bS ?_;refine aL (fun m=>?_) (fun m=>?_)
 ·have f:k<xs.length:=by omega
  rw [dY f,cn] at a;refine fg g h cA aG f (fun cs o=>o) ?_;refine bw ?_;refine aL (fun q=>done g ?_) (fun q=>?_)
  ·rw [<- a,ai (by simpa using q)]
  ·refine bC (by omega) ?_;rw [ag (by simpa using q)] at a;exact ⟨⟨k+1,f,rfl,a,g⟩,by simp [intOf]; omega⟩
 ·have:k=xs.length:=by omega
  subst this;rw [eC,cn] at a;exact done g (by rw [<- a])
theorem mq (s:Int) {xs:List Int} {S:ae} {v:Value} (h:RdSl S 1 jD v xs):Pure Tryz.prog Ba [v,.int .i64 s] S (.bool (vw xs s)):=by
 intro w a;refine nl.2 ?_;dsimp only[nl,bm];refine Run.callPure sU sW a (r7 s h) fun w' a=>?_;refine jM (done a ?_);rw [(j9 _ xs () 0).1,jW]; rfl
theorem Ae {σ:Type} {f:FuncId} {fn:Func} {cap:List Value} {S:ae} {It:σ->List Item} {ok:σ->Prop} {step:σ->Int->Bool × σ} {xs:List Int} {v:Value}
  (m:Cb Tryz.prog f fn cap S It ok step (fun v x=>v=.int .i64 x) xs) (h:RdSl S 1 jD v xs) {st:σ} (G:ok st) :
  Tri Tryz.prog zP [v,fv f cap] (It st) S fun r I' S'=>r=.int .i64 (cn step st xs 0).1/\I'=It (cn step st xs 0).2/\S'=S:=by
 intro w q;have B:=h.le;simp only [maxLen] at B;refine mA.2 ?_;dsimp only[mA,bm];refine aJ h cA ?_;refine ⟨fun i w'=>∃ (k:Nat) (g:σ),k<=xs.length/\i=.int .i64 k/\ok g/\cn step g (xs.drop k) k=cn step st xs 0/\Inv w (bP (It st)) (It g) S w',fun i _=>xs.length - (intOf i).toNat,
  ⟨0,st,bk _,rfl,G,rfl,q⟩,?_⟩
 intro O _ _ _ _ _ _ _ _ _ _ _ _ w';rintro ⟨k,g,hk,rfl,t,l,q⟩;refine bS ?_;refine aL (fun J=>?_) (fun J=>?_)
 ·have o:k<xs.length:=by omega
  have N:=bG o;have a:cn step g (xs.drop k) k=if (step g xs[k]).1 then ((k:Int),(step g xs[k]).2) else cn step (step g xs[k]).2 (xs.drop (k+1)) (k+1):=by
   rw [dY o,cn]
  refine fg q h cA aG o (fun cs M=>M) ?_;refine Run.callV (A:=[]) (args:=[.int .i64 xs[k]]) m.hf m.hn (by simpa using q) (m.call g _ _ N t rfl) fun U I' S' w'=>?_;rintro ⟨rfl,rfl,rfl⟩ _ q;refine aD (fun D=>?_) (fun D=>?_)
  ·rw [ai D] at a;refine ⟨_,_,_,rfl,by simpa using q,Ext.refl _ _ _,?_,?_,rfl⟩
   ·rw [<- l,a]
   ·rw [<- l,a]
  ·refine bC (by omega) ?_;rw [D] at a;refine ⟨⟨k+1,_,o,rfl,m.keep g _ N t D,?_,by simpa using q⟩,by simp [intOf]; omega⟩;rw [<- l,a];rfl
 ·have:k=xs.length:=by omega
  subst this;rw [eC,cn] at l;exact ⟨_,_,_,rfl,q,Ext.refl _ _ _,by rw [<- l],by rw [<- l],rfl⟩
theorem vx {σ:Type} {f:FuncId} {fn:Func} {cap:List Value} {S:ae} {It:σ->List Item} {ok:σ->Prop} {step:σ->Int->Bool × σ} {xs:List Int} {v:Value}
  (a:Cb Tryz.prog f fn cap S It ok step (fun v x=>v=.int .i64 x) xs) (h:RdSl S 1 jD v xs) {st:σ} (g:ok st) :
  Tri Tryz.prog ut [v,fv f cap] (It st) S fun r I' S'=>r=.bool (se step st xs).1/\I'=It (se step st xs).2/\S'=S:=by
 intro w i;refine jS.2 ?_;dsimp only[jS,bm];refine Run.call (A:=[]) wZ xA (by simpa using i) (Ae a h g) fun m I' S' w'=>?_;rintro ⟨rfl,rfl,rfl⟩ _ i;refine jM ?_;have l:=j9 step xs st 0;exact ⟨_,_,_,rfl,by simpa using i,Ext.refl _ _ _,by rw [l.1],by rw [l.2],rfl⟩
end
end Go.Proofs.YtgllldjiaglkcaaGreatDoor
