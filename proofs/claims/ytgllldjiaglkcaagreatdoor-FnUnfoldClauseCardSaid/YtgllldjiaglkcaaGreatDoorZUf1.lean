/- The program's TermValid and what it calls. -/
import Derived.Test.YtgllldjiaglkcaaGreatDoorZUf0
namespace Go.Proofs.YtgllldjiaglkcaaGreatDoor
section
open Go Go.RowKit
attribute [local irreducible] Run CondV aq aK

theorem fm (n low a:Int) (S:ae):Pure Tryz.prog Pe [.int .i64 n,.int .i64 low,.int .i64 a] S (.bool (decide (low<=n) && decide (n<=a))):=by
 intro w f;refine C7.2 ?_;dsimp only[C7,fV];refine fP ?_;refine lc (fun h=>?_) (fun h=>done f (by rw [h]; rfl));refine fP ?_;exact iI h (done f (by rw [h]; rfl))
theorem sa (s:ByteArray) (q:s.size<=maxLen) (S:ae):Pure Tryz.prog H6 [.string s] S (.bool (mr s)):=by
 intro w l;simp only [maxLen] at q;refine um.2 ?_;dsimp only[um,aO];refine jG ba ?_;refine ⟨fun i w'=>∃ k:Nat,k<=s.size/\i=.int .i64 k/\(s.data.toList.drop k).all tu=sZ s/\Inv w [] [] S w',fun i _=>s.size - (intOf i).toNat,⟨0,bk _,rfl,rfl,l⟩,?_⟩;intro r _ _ _ _ _ _ _ _ _ _ _ _ _ _ _ w';rintro ⟨k,hk,rfl,f,l⟩;refine bT ?_;refine aL (fun m=>?_) (fun m=>?_)
 ·have g:k<s.size:=by omega
  have a:=zq tu s.data.toList k (by rw [pW]; exact g);rw [NE s k g] at a;refine ⟨fun t w'=>t=.bool (!tu s[k])/\Inv w [] [] S w',?_,?_⟩
  ·refine mC ba g ?_;refine bT ?_;refine LI (fun h=>⟨?_,l⟩) (fun h=>?_)
   ·have h:=of_decide_eq_true h;rw [tu,aZ (show ¬ 97<=s[k].toNat by omega)]; rfl
   ·refine mC ba g ?_;refine eP ?_;refine BP h ⟨?_,l⟩;have h:=of_decide_eq_false h;rw [tu,aN (show 97<=s[k].toNat by omega),eH];by_cases o:s[k].toNat<=122
    ·rw [aN o,aZ (by omega)]; rfl
    ·rw [aZ o,aN (by omega)]; rfl
  intro t _ _ _ _ _ _ _ _ _ w';rintro ⟨rfl,l⟩;refine aD (fun h=>done l ?_) (fun h=>?_)
  ·simp at h;rw [mr,<- f,a,h]; rfl
  ·simp at h;refine bC (by omega) ?_;refine ⟨⟨k+1,g,rfl,by rw [<- f,a,h]; rfl,l⟩,by simp [intOf]; omega⟩
 ·have:k=s.size:=by omega
  subst this;have hl:sZ s=true:=by rw [<- f,<- pW,eD]; rfl
  refine jG ba ?_;refine Run.callPure fT fU l (fm _ _ _ S) fun w' l=>done l ?_;rw [mr,hl,eH]
  congr 1
  rw [oh];simp;omega
theorem HR (S:ae):Tri Tryz.prog OK [] [] S (JB S):=by
 intro w f;refine zP.2 ?_;dsimp only[zP,nY];refine xo (v:=fun b=>.slice (some ⟨b,0,none⟩) 15 15) (o:=.cells A8 ib) f (by kernel_rfl) fun b w' f=>?_;have a:w.heap.size<=b:=by
  rcases f.new b (by simp [bP,Item.foot]) with h|h
  ·simp [bP] at h
  ·exact h
 obtain ⟨i,g⟩:=Inv.publishLast (L:=[]) f;exact ⟨_,_,_,rfl,i,OA a g,rfl,g,OO (by simp [pI]; rfl)⟩
theorem xB (s:ByteArray) {xs:List ByteArray} {S:ae} {v:Value} (h:RdSl S 1 vZ v xs) :
  Pure Tryz.prog Bb [v,.string s] S (.int .i64 (cm (σ:=Unit) (fun _ x=>(decide (x=s),())) () xs 0).1):=by
 intro w g;have l:=h.le;simp only [maxLen] at l;refine n6.2 ?_;dsimp only[n6,bm];refine aJ h cX ?_;refine ⟨fun i w'=>∃ k:Nat,k<=xs.length/\i=.int .i64 k/\cm (σ:=Unit) (fun _ x=>(decide (x=s),())) () (xs.drop k) k=cm (σ:=Unit) (fun _ x=>(decide (x=s),())) () xs 0/\Inv w [] [] S w',
  fun i _=>xs.length - (intOf i).toNat,⟨0,bk _,rfl,rfl,g⟩,?_⟩
 intro r _ _ _ _ _ _ _ _ _ _ _ _ w';rintro ⟨k,hk,rfl,a,g⟩;refine bT ?_;refine aL (fun m=>?_) (fun m=>?_)
 ·have f:k<xs.length:=by omega
  rw [dY f,cm] at a;refine ff g h cX be f (fun cs o=>o) ?_;refine bR ?_;refine aL (fun q=>done g ?_) (fun q=>?_)
  ·rw [<- a,ai (by simpa using q.symm)]
  ·refine bC (by omega) ?_;rw [ag (by simpa using fun e=>q e.symm)] at a;exact ⟨⟨k+1,f,rfl,a,g⟩,by simp [intOf]; omega⟩
 ·have:k=xs.length:=by omega
  subst this;rw [eD,cm] at a;exact done g (by rw [<- a])
theorem gL (s:ByteArray) {xs:List ByteArray} {S:ae} {v:Value} (h:RdSl S 1 vZ v xs) :
  Pure Tryz.prog vd [v,.string s] S (.bool (xs.any fun x=>decide (x=s))):=by
 intro w a;refine lh.2 ?_;dsimp only[lh,bm];refine Run.callPure zp xG a (xB s h) fun w' a=>?_;refine jM (done a ?_);rw [(jX _ xs () 0).1,jZ]
theorem Ad (s:ByteArray) (g:s.size<=maxLen) (S:ae):Pure Tryz.prog HX [.string s] S (.bool (lM s)):=by
 intro w a;refine uB.2 ?_;dsimp only[uB,aO];refine Run.callPure tk tU a (sa s g S) fun w' a=>?_;refine LI (fun h=>done a ?_) (fun h=>?_)
 ·rw [lM,h]; rfl
 ·refine Run.call0 KR LV a (HR S) fun l I' S' w'=>?_;rintro ⟨rfl,_,i⟩ f a;refine Run.callPure hY g7 a (gL s i) fun w' a=>?_;refine BP h (iy a f ?_);rw [lM,h]; rfl

abbrev lA (b:Nat) (c:Int):Item:=.blk b (.cells #[.int .i64 c] cN)
abbrev yI (bc:Nat) (S:ae) (r:Bool × Int):Value->List Item->ae->Prop:=fun v I' S'=>v=.bool r.1/\I'=[lA bc r.2]/\S'=S
theorem Nq:∀ (t:T) (a c:Int),c<=120->(fW t a c).1=true->c<(fW t a c).2/\(fW t a c).2<=120:=by
 intro t a c hc h;have:=Ew t a c;rw [this.2 h];have f:=this.1;rw [h] at f;have g:=f.symm;simp at g;have:=pf t;omega
theorem JR (a:Int):∀ (ks:List T) (c:Int),sk (fun c t=>(!(fW t a c).1,(fW t a c).2)) c ks=(!(mE ks a c).1,(mE ks a c).2)
 | [],c=>by simp [sk,mE]
 | t::ts,c=>by
  by_cases h:(fW t a c).1=true
  ·simp [sk,mE,h,JR a ts]
  ·simp [sk,mE,h]

theorem P1:∀ (t:T) (S:ae) (cs:List Value) (a c:Int) (bc:Nat),RdT S cs t->0<=a->a<=31->0<=c->c<=120->
  Tri Tryz.prog T9 [.agg cs.toArray,.int .i64 a,.pointer (some ⟨bc,0,none⟩)] [lA bc c] S (yI bc S (fW t a c)):=by
 refine T.ind fun k n s ks ih S cs a c bc h a4 a5 a6 a7=>?_;intro w f;obtain ⟨kv,rfl,_,_,hs,D⟩:=RdT.iff.1 h;simp only [T.name,T.kids,T.kind,T.n] at hs D ⊢;have l:∀ {L:List Item} {w':World} {v:Value} (r:Bool × Int),Inv w (bP [lA bc c]) (lA bc r.2::L) S w'->v=.bool r.1->r=fW (.mk k n s ks) a c->
   ∃ Y I' S',Ending.returned v=.returned Y/\Inv w (bP [lA bc c]) I' S' w'/\Ext w.heap.size (bP [lA bc c]) S S'/\yI bc S (fW (.mk k n s ks) a c) Y I' S':=by
  intro L w' v r h1 m o;subst o;exact ⟨_,_,_,rfl,h1.pick [true],Ext.refl _ _ _,m,rfl,rfl⟩
 refine Jx.2 ?_;dsimp only[Jx,fV];refine bJ f fun b3 w' f=>?_;refine bJ f fun U w' f=>?_;refine bJ f fun V w' f=>?_;refine aU f 3 KN rfl rfl ?_;refine aE ?_;refine aU f 0 aG rfl rfl ?_;refine bC (by omega) ?_;refine aE ?_;refine dA f 0 (n:=1) rfl (by rw [aG]; rfl) rfl (mi rfl) (by simp [Value.cells]; rfl) fun w' f=>?_;refine ⟨fun t w'=>t=.bool (decide (120<c+1 ∨ 30<a))/\Inv w (bP [lA bc c]) [lA bc (c+1),.blk b3 (.cells #[.int .i64 k,.int .i64 n,.string s,kv] ab),.blk U (.cells #[.int .i64 a] cN),.blk V (.cells #[.pointer (some ⟨bc,0,none⟩)] qu)] S w',?_,?_⟩
 ·refine aU f 3 KN rfl rfl ?_;refine aE ?_;refine aU f 0 aG rfl rfl ?_;refine eP ?_;refine LI (fun h=>⟨?_,f⟩) (fun h=>?_)
  ·have h:=of_decide_eq_true h;rw [aN (show 120<c+1 ∨ 30<a from .inl h)]
  ·refine aU f 2 aG rfl rfl ?_;refine eP ?_;refine BP h ⟨?_,f⟩;have h:=of_decide_eq_false h
   congr 1
   rw [oh];simp;omega
 intro t _ _ _ _ _ _ _ w';rintro ⟨rfl,f⟩;refine aL (fun hb=>?_) (fun hb=>?_)
 ·exact l (false,c+1) f rfl (by rw [fW,ai hb])
 have G:∀ r,(if k=1 ∨ k=2 then (eB (.mk k n s ks),c+1) else if k=3 then (if eB (.mk k n s ks) then mE ks (a+1) (c+1) else (false,c+1)) else (false,c+1))=r->r=fW (.mk k n s ks) a c:=by
  intro r hr;rw [fW,ag hb,hr]
 refine af f 1 rfl aW aG rfl ?_;refine bw ?_;refine aL (fun hk=>?_) (fun hk=>?_)
 ·have J:eB (.mk k n s ks)=(decide (0<=n) && (decide (n<=25) && (decide (s=emptyB) && decide (ks.length=0)))):=by
   rw [eB]; exact ai hk
  have i:∀ {w':World} {b:Bool},Inv w (bP [lA bc c]) [lA bc (c+1),.blk b3 (.cells #[.int .i64 k,.int .i64 n,.string s,kv] ab),.blk U (.cells #[.int .i64 a] cN),.blk V (.cells #[.pointer (some ⟨bc,0,none⟩)] qu)] S w'->
    b=eB (.mk k n s ks)->∃ Y I' S',Ending.returned (.bool b)=.returned Y/\Inv w (bP [lA bc c]) I' S' w'/\Ext w.heap.size (bP [lA bc c]) S S'/\yI bc S (fW (.mk k n s ks) a c) Y I' S':=
   fun f hb=>l (_,c+1) f (by rw [hb]) (G _ (ai (.inl hk)))
  refine af f 1 rfl bi aG rfl ?_;refine Run.callPure fT fU f (fm _ _ _ S) fun w' f=>?_;refine lc (fun m=>?_) (fun m=>?_)
  ·have g:=m;rw [bM] at g;refine af f 1 rfl bl be rfl ?_;refine bR ?_;refine iI m ?_;refine lc (fun o=>?_) (fun o=>i f ?_)
   ·refine af f 1 rfl ar al rfl ?_;refine aJ D ah ?_;refine bw ?_;refine iI o (i f ?_);rw [J,g.1,g.2,show decide (s=emptyB)=true from o];simp
   ·rw [J,g.1,g.2,show decide (s=emptyB)=false from o]; rfl
  ·refine qM (i f ?_);rw [J,<- Bool.and_assoc,m]; rfl
 refine bw ?_;refine aL (fun q=>?_) (fun q=>?_)
 ·have J:eB (.mk k n s ks)=(decide (-999<=n) && (decide (n<=999) && (decide (s=emptyB) && decide (ks.length=0)))):=by
   rw [eB]; exact (ag hk).trans (ai q)
  have i:∀ {w':World} {b:Bool},Inv w (bP [lA bc c]) [lA bc (c+1),.blk b3 (.cells #[.int .i64 k,.int .i64 n,.string s,kv] ab),.blk U (.cells #[.int .i64 a] cN),.blk V (.cells #[.pointer (some ⟨bc,0,none⟩)] qu)] S w'->
    b=eB (.mk k n s ks)->∃ Y I' S',Ending.returned (.bool b)=.returned Y/\Inv w (bP [lA bc c]) I' S' w'/\Ext w.heap.size (bP [lA bc c]) S S'/\yI bc S (fW (.mk k n s ks) a c) Y I' S':=
   fun f hb=>l (_,c+1) f (by rw [hb]) (G _ (ai (.inr q)))
  refine af f 1 rfl bi aG rfl ?_;refine Run.callPure fT fU f (fm _ _ _ S) fun w' f=>?_;refine lc (fun m=>?_) (fun m=>?_)
  ·have g:=m;rw [bM] at g;refine af f 1 rfl bl be rfl ?_;refine bR ?_;refine iI m ?_;refine lc (fun o=>?_) (fun o=>i f ?_)
   ·refine af f 1 rfl ar al rfl ?_;refine aJ D ah ?_;refine bw ?_;refine iI o (i f ?_);rw [J,g.1,g.2,show decide (s=emptyB)=true from o];simp
   ·rw [J,g.1,g.2,show decide (s=emptyB)=false from o]; rfl
  ·refine qM (i f ?_);rw [J,<- Bool.and_assoc,m]; rfl
 refine bw ?_;have N:¬ (k=1 ∨ k=2):=fun h=>h.elim hk q;refine aL (fun B=>?_) (fun B=>?_)
 ·have J:eB (.mk k n s ks)=(decide (n=0) && (lM s && decide (ks.length<=4))):=by
   rw [eB]; exact (ag hk).trans ((ag q).trans (ai B))
  refine ⟨fun t w'=>t=.bool (!eB (.mk k n s ks))/\Inv w (bP [lA bc c]) [lA bc (c+1),.blk b3 (.cells #[.int .i64 k,.int .i64 n,.string s,kv] ab),.blk U (.cells #[.int .i64 a] cN),.blk V (.cells #[.pointer (some ⟨bc,0,none⟩)] qu)] S w',?_,?_⟩
  ·refine af f 1 rfl bi aG rfl ?_;refine fQ ?_;refine LI (fun h1=>?_) (fun h1=>?_)
   ·have a0:decide (n=0)=false:=by simpa using h1
    refine Zz ⟨?_,f⟩;rw [J,a0]; rfl
   ·have a0:decide (n=0)=true:=by simpa using h1
    refine af f 1 rfl bl be rfl ?_;refine Run.callPure FD GG f (Ad s hs S) fun w' f=>?_;refine cw ?_;refine BP h1 ?_;refine LI (fun m=>⟨?_,f⟩) (fun m=>?_)
    ·have g:lM s=false:=by simpa using m
     rw [J,a0,g]; rfl
    ·have g:lM s=true:=by simpa using m
     refine af f 1 rfl ar al rfl ?_;refine aJ D ah ?_;refine eP ?_;refine BP m ⟨?_,f⟩;rw [J,a0,g,eH,eH]
     congr 1
     rw [oh];simp;omega
  intro t _ _ _ _ _ _ _ _ _ _ _ _ _ _ w';rintro ⟨rfl,f⟩;refine aD (fun a1=>?_) (fun a1=>?_)
  ·have O:eB (.mk k n s ks)=false:=by simpa using a1
   exact l (false,c+1) f rfl (G _ (by rw [ag N,ai B,O]; rfl))
  ·have O:eB (.mk k n s ks)=true:=by simpa using a1
   refine af f 1 rfl ar al rfl ?_;refine ml ?_;have a3:Cb Tryz.prog O3 Tryz.f204 [.pointer (some ⟨U,0,none⟩),.pointer (some ⟨V,0,none⟩)] S
     (fun c:Int=>[lA bc c,.blk U (.cells #[.int .i64 a] cN),.blk V (.cells #[.pointer (some ⟨bc,0,none⟩)] qu)]) (fun c=>0<=c/\c<=120)
     (fun c t=>(!(fW t (a+1) c).1,(fW t (a+1) c).2)) (fun v x=>∃ cs,v=.agg cs.toArray/\RdT S cs x) ks:=by
    refine ⟨MZ,Nt,fun st x _ Z hf=>?_,fun st x v hx Z=>?_⟩
    ·have:=Nq x (a+1) st Z.2 (by simpa using hf);omega
    ·rintro ⟨cs,rfl,a2⟩ w1 f;have hl:=a2.length;refine BV.2 ?_;dsimp only[BV,fV];refine bJ f fun b w' f=>?_;refine aC f 3 ad rfl (by simpa [Value.cells] using hl) ?_;refine aU f 1 aG rfl rfl ?_;refine bC (by omega) ?_;refine aU f 2 KN rfl rfl ?_;have f:=f.perm (M:=[.blk U (.cells #[.int .i64 a] cN),.blk V (.cells #[.pointer (some ⟨bc,0,none⟩)] qu),.blk b (.cells (Value.agg cs.toArray).cells ab)]++[lA bc st])
      (cj (l₁:=[_,_,_]) (l₂:=[lA bc st]))
     refine Run.call Jq IJ f (ih x hx S cs (a+1) st bc a2 (by omega) (by omega) Z.1 Z.2) fun Y I' S' w'=>?_;rintro ⟨rfl,rfl,rfl⟩ _ f;refine cw ?_;have f:=(f.perm (M:=[lA bc (fW x (a+1) st).2]++[.blk U (.cells #[.int .i64 a] cN),.blk V (.cells #[.pointer (some ⟨bc,0,none⟩)] qu),.blk b (.cells (Value.agg cs.toArray).cells ab)])
      cj).pick [true,true,true,false]
     exact ⟨_,_,_,rfl,f,Ext.refl _ _ _,rfl,rfl,rfl⟩
   have f:=f.perm (M:=[.blk b3 (.cells #[.int .i64 k,.int .i64 n,.string s,kv] ab)]++[lA bc (c+1),.blk U (.cells #[.int .i64 a] cN),.blk V (.cells #[.pointer (some ⟨bc,0,none⟩)] qu)]) (List.Perm.swap _ _ _);refine Run.call eL eJ f (gV a3 D ⟨by omega,by omega⟩) fun Y I' S' w'=>?_;rintro ⟨rfl,rfl,rfl⟩ _ f;refine cw ?_;rw [JR] at f ⊢;have f:=f.perm (M:=[lA bc (mE ks (a+1) (c+1)).2,.blk b3 (.cells #[.int .i64 k,.int .i64 n,.string s,kv] ab),.blk U (.cells #[.int .i64 a] cN),.blk V (.cells #[.pointer (some ⟨bc,0,none⟩)] qu)]) (List.Perm.swap _ _ _);refine l (mE ks (a+1) (c+1)) f (by simp) (G _ (by rw [ag N,ai B,O]; rfl))
 ·exact l (false,c+1) f rfl (G _ (by rw [ag N,ag B]))

theorem pP {t:T} {S:ae} {cs:List Value} (h:RdT S cs t):Pure Tryz.prog H2 [.agg cs.toArray] S (.bool (d4 t)):=by
 intro w a;have hl:=h.length;refine sY.2 ?_;dsimp only[sY,aO];refine bJ a fun g w' a=>?_;refine aQ a Uq fun f w' a=>?_;refine dA a 1 (n:=1) rfl (by rw [aG]; rfl) rfl (mi rfl) (by simp [Value.cells]; rfl) fun w' a=>?_;refine aC a 0 ad rfl (by simpa [Value.cells] using hl) ?_;refine Run.call (A:=[_]) (I:=[lA f 0]) Jq IJ a (P1 t S cs 1 0 f h (by omega) (by omega) (by omega) (by omega)) fun i I' S' w'=>?_;rintro ⟨rfl,rfl,rfl⟩ _ a;exact done a (by rw [QZ])
end
section
open Go Go.RowKit
attribute [local irreducible] Run CondV aq aK

def sm:List ByteArray:=[⟨#[61]⟩,⟨#[92,61]⟩,⟨#[61,61]⟩,⟨#[60]⟩,⟨#[62]⟩,⟨#[61,60]⟩,⟨#[62,61]⟩,⟨#[61,58,61]⟩,⟨#[105,115]⟩]
def qy:List ByteArray:=[⟨#[116,114,117,101]⟩,⟨#[102,97,105,108]⟩]
def wv:List ByteArray:=[⟨#[118,97,114]⟩,⟨#[110,111,110,118,97,114]⟩,⟨#[97,116,111,109]⟩,⟨#[105,110,116]⟩]
def zc:List ByteArray:=[⟨#[43]⟩,⟨#[45]⟩]
def n9:List ByteArray:=[⟨#[42]⟩,⟨#[47,47]⟩,⟨#[109,111,100]⟩]
def dh (s:ByteArray) (l:List ByteArray):Bool:=l.any fun x=>decide (s=x)
def eU (s:ByteArray) (n:Int):Bool:=
 if dh s sm=true then decide (n=2)
 else if dh s qy=true then decide (n=0)
 else if dh s wv=true then decide (n=1)
 else if s=⟨#[97,114,103]⟩ then decide (n=3)
 else false
def cR (s:ByteArray):Int:=if dh s sm=true then 3 else if dh s zc=true then 2 else if dh s n9=true then 1 else 0
def eA (t:T):Bool:=decide (t.kind=3) && (decide (t.name=⟨#[33]⟩) && decide (t.kids.length=0))
def UT (t:T):Bool:=decide (t.kind=3) && decide (t.kids.length=0)
def bV (t:T):Bool:=decide (t.kind=3) && eU t.name t.kids.length
def dH (t:T):Bool:=decide (t.kind=3) && (mr t.name && (!eU t.name t.kids.length && decide (cR t.name=0)))
def eN (t:T):Bool:=d4 t && (eA t || (dH t || bV t))
def bt (c:C):Bool:=decide (c.body.length<=6) && (c.body.all eN && (d4 c.head && dH c.head))
def dZ (l:List T):Bool:=decide (l.length<=6) && l.all eN
def c8 (p:List C):Bool:=decide (p.length<=20) && p.all bt
theorem Tm (s:ByteArray):(!decide (0<cR s))=decide (cR s=0):=by
 unfold cR;split
 ·rfl
 ·split
  ·rfl
  ·split <;> rfl

theorem pJ (s:ByteArray) (n:Int) (S:ae):Pure Tryz.prog Ia [.string s,.int .i64 n] S (.bool (eU s n)):=by
 intro w g;refine td.2 ?_;dsimp only[td,bm];obtain ⟨q,a⟩:∃ q,dh s sm=q:=⟨_,rfl⟩
 have f:=a;refine ⟨fun t w'=>t=.bool q/\Inv w [] [] S w',?_,?_⟩
 ·unfold dh sm at a
  iterate 8
   refine bR ?_;refine aD (fun h=>⟨by rw [fy,h] at a; rw [h,<- a]; rfl,g⟩) (fun h=>?_);rw [fy,h,iw] at a
  refine bR ⟨?_,g⟩;rw [<- a]; simp
 intro t _ _ _ _ _ _ _ _ _ w';rintro ⟨rfl,g⟩;refine aD (fun h=>?_) (fun h=>?_)
 ·exact bw (done g (by rw [eU,ai (f.trans h)]))
 have e1:eU s n=if dh s qy=true then decide (n=0) else if dh s wv=true then decide (n=1) else if s=⟨#[97,114,103]⟩ then decide (n=3) else false:=by
  rw [eU,ag (by rw [f,h]; decide)]
 clear a f h;obtain ⟨q,a⟩:∃ q,dh s qy=q:=⟨_,rfl⟩
 have f:=a;refine ⟨fun t w'=>t=.bool q/\Inv w [] [] S w',?_,?_⟩
 ·unfold dh qy at a;refine bR ?_;refine aD (fun h=>⟨by rw [fy,h] at a; rw [h,<- a]; rfl,g⟩) (fun h=>?_);rw [fy,h,iw] at a;refine bR ⟨?_,g⟩;rw [<- a]; simp
 intro _ t _ w';rintro ⟨rfl,g⟩;refine aD (fun h=>?_) (fun h=>?_)
 ·exact bw (done g (by rw [e1,ai (f.trans h)]))
 rw [ag (by rw [f,h]; decide)] at e1;clear a f h;obtain ⟨q,a⟩:∃ q,dh s wv=q:=⟨_,rfl⟩
 have f:=a;refine ⟨fun t w'=>t=.bool q/\Inv w [] [] S w',?_,?_⟩
 ·unfold dh wv at a
  iterate 3
   refine bR ?_;refine aD (fun h=>⟨by rw [fy,h] at a; rw [h,<- a]; rfl,g⟩) (fun h=>?_);rw [fy,h,iw] at a
  refine bR ⟨?_,g⟩;rw [<- a]; simp
 intro _ _ _ t _ w';rintro ⟨rfl,g⟩;refine aD (fun h=>?_) (fun h=>?_)
 ·exact bw (done g (by rw [e1,ai (f.trans h)]))
 rw [ag (by rw [f,h]; decide)] at e1;refine bR ?_;refine aL (fun h=>?_) (fun h=>?_)
 ·exact bw (done g (by rw [e1,ai h]))
 ·exact done g (by rw [e1,ag h])
theorem AA (s:ByteArray) (n:Int) (S:ae):Pure Tryz.prog Hq [.string s,.int .i64 n] S (.bool (eU s n)):=by
 intro w g;refine sL.2 ?_;dsimp only[sL,bm];obtain ⟨q,a⟩:∃ q,dh s sm=q:=⟨_,rfl⟩
 have f:=a;refine ⟨fun t w'=>t=.bool q/\Inv w [] [] S w',?_,?_⟩
 ·unfold dh sm at a
  iterate 8
   refine bR ?_;refine aD (fun h=>⟨by rw [fy,h] at a; rw [h,<- a]; rfl,g⟩) (fun h=>?_);rw [fy,h,iw] at a
  refine bR ⟨?_,g⟩;rw [<- a]; simp
 intro t _ _ _ _ _ _ _ _ _ w';rintro ⟨rfl,g⟩;refine aD (fun h=>?_) (fun h=>?_)
 ·exact bw (done g (by rw [eU,ai (f.trans h)]))
 have e1:eU s n=if dh s qy=true then decide (n=0) else if dh s wv=true then decide (n=1) else if s=⟨#[97,114,103]⟩ then decide (n=3) else false:=by
  rw [eU,ag (by rw [f,h]; decide)]
 clear a f h;obtain ⟨q,a⟩:∃ q,dh s qy=q:=⟨_,rfl⟩
 have f:=a;refine ⟨fun t w'=>t=.bool q/\Inv w [] [] S w',?_,?_⟩
 ·unfold dh qy at a;refine bR ?_;refine aD (fun h=>⟨by rw [fy,h] at a; rw [h,<- a]; rfl,g⟩) (fun h=>?_);rw [fy,h,iw] at a;refine bR ⟨?_,g⟩;rw [<- a]; simp
 intro _ t _ w';rintro ⟨rfl,g⟩;refine aD (fun h=>?_) (fun h=>?_)
 ·exact bw (done g (by rw [e1,ai (f.trans h)]))
 rw [ag (by rw [f,h]; decide)] at e1;clear a f h;obtain ⟨q,a⟩:∃ q,dh s wv=q:=⟨_,rfl⟩
 have f:=a;refine ⟨fun t w'=>t=.bool q/\Inv w [] [] S w',?_,?_⟩
 ·unfold dh wv at a
  iterate 3
   refine bR ?_;refine aD (fun h=>⟨by rw [fy,h] at a; rw [h,<- a]; rfl,g⟩) (fun h=>?_);rw [fy,h,iw] at a
  refine bR ⟨?_,g⟩;rw [<- a]; simp
 intro _ _ _ t _ w';rintro ⟨rfl,g⟩;refine aD (fun h=>?_) (fun h=>?_)
 ·exact bw (done g (by rw [e1,ai (f.trans h)]))
 rw [ag (by rw [f,h]; decide)] at e1;refine bR ?_;refine aL (fun h=>?_) (fun h=>?_)
 ·exact bw (done g (by rw [e1,ai h]))
 ·exact done g (by rw [e1,ag h])

theorem eG (s:ByteArray) (S:ae):Pure Tryz.prog M4 [.string s] S (.int .i64 (cR s)):=by
 intro w g;refine z4.2 ?_;dsimp only[z4,aO];obtain ⟨q,a⟩:∃ q,dh s sm=q:=⟨_,rfl⟩
 have f:=a;refine ⟨fun t w'=>t=.bool q/\Inv w [] [] S w',?_,?_⟩
 ·unfold dh sm at a
  iterate 8
   refine bR ?_;refine aD (fun h=>⟨by rw [fy,h] at a; rw [h,<- a]; rfl,g⟩) (fun h=>?_);rw [fy,h,iw] at a
  refine bR ⟨?_,g⟩;rw [<- a]; simp
 intro _ _ _ _ _ _ _ _ t _ w';rintro ⟨rfl,g⟩;refine aD (fun h=>?_) (fun h=>?_)
 ·exact done g (by rw [show cR s=3 from ai (f.trans h)] <;> rfl)
 have e1:cR s=if dh s zc=true then 2 else if dh s n9=true then 1 else 0:=by
  rw [cR,ag (by rw [f,h]; decide)]
 clear a f h;obtain ⟨q,a⟩:∃ q,dh s zc=q:=⟨_,rfl⟩
 have f:=a;refine ⟨fun t w'=>t=.bool q/\Inv w [] [] S w',?_,?_⟩
 ·unfold dh zc at a;refine bR ?_;refine aD (fun h=>⟨by rw [fy,h] at a; rw [h,<- a]; rfl,g⟩) (fun h=>?_);rw [fy,h,iw] at a;refine bR ⟨?_,g⟩;rw [<- a]; simp
 intro _ t _ w';rintro ⟨rfl,g⟩;refine aD (fun h=>?_) (fun h=>?_)
 ·exact done g (by rw [show cR s=2 from e1.trans (ai (f.trans h))] <;> rfl)
 rw [ag (by rw [f,h]; decide)] at e1;clear a f h;obtain ⟨q,a⟩:∃ q,dh s n9=q:=⟨_,rfl⟩
 have f:=a;refine ⟨fun t w'=>t=.bool q/\Inv w [] [] S w',?_,?_⟩
 ·unfold dh n9 at a
  iterate 2
   refine bR ?_;refine aD (fun h=>⟨by rw [fy,h] at a; rw [h,<- a]; rfl,g⟩) (fun h=>?_);rw [fy,h,iw] at a
  refine bR ⟨?_,g⟩;rw [<- a]; simp
 intro _ _ t _ w';rintro ⟨rfl,g⟩;refine aD (fun h=>?_) (fun h=>?_)
 ·exact done g (by rw [show cR s=1 from e1.trans (ai (f.trans h))] <;> rfl)
 ·exact done g (by rw [show cR s=0 from e1.trans (ag (by rw [f,h]; decide))] <;> rfl)
theorem DO (s:ByteArray) (S:ae):Pure Tryz.prog ME [.string s] S (.tuple #[.int .i64 (cR s),.bool (decide (cR s=1) || decide (cR s=2))]):=by
 intro w g;refine x1.2 ?_;dsimp only[x1,aO];obtain ⟨q,a⟩:∃ q,dh s sm=q:=⟨_,rfl⟩
 have f:=a;refine ⟨fun t w'=>t=.bool q/\Inv w [] [] S w',?_,?_⟩
 ·unfold dh sm at a
  iterate 8
   refine bR ?_;refine aD (fun h=>⟨by rw [fy,h] at a; rw [h,<- a]; rfl,g⟩) (fun h=>?_);rw [fy,h,iw] at a
  refine bR ⟨?_,g⟩;rw [<- a]; simp
 intro _ _ _ _ _ _ _ _ t _ w';rintro ⟨rfl,g⟩;refine aD (fun h=>?_) (fun h=>?_)
 ·exact done g (by rw [show cR s=3 from ai (f.trans h)] <;> rfl)
 have e1:cR s=if dh s zc=true then 2 else if dh s n9=true then 1 else 0:=by
  rw [cR,ag (by rw [f,h]; decide)]
 clear a f h;obtain ⟨q,a⟩:∃ q,dh s zc=q:=⟨_,rfl⟩
 have f:=a;refine ⟨fun t w'=>t=.bool q/\Inv w [] [] S w',?_,?_⟩
 ·unfold dh zc at a;refine bR ?_;refine aD (fun h=>⟨by rw [fy,h] at a; rw [h,<- a]; rfl,g⟩) (fun h=>?_);rw [fy,h,iw] at a;refine bR ⟨?_,g⟩;rw [<- a]; simp
 intro _ t _ w';rintro ⟨rfl,g⟩;refine aD (fun h=>?_) (fun h=>?_)
 ·exact done g (by rw [show cR s=2 from e1.trans (ai (f.trans h))] <;> rfl)
 rw [ag (by rw [f,h]; decide)] at e1;clear a f h;obtain ⟨q,a⟩:∃ q,dh s n9=q:=⟨_,rfl⟩
 have f:=a;refine ⟨fun t w'=>t=.bool q/\Inv w [] [] S w',?_,?_⟩
 ·unfold dh n9 at a
  iterate 2
   refine bR ?_;refine aD (fun h=>⟨by rw [fy,h] at a; rw [h,<- a]; rfl,g⟩) (fun h=>?_);rw [fy,h,iw] at a
  refine bR ⟨?_,g⟩;rw [<- a]; simp
 intro _ _ t _ w';rintro ⟨rfl,g⟩;refine aD (fun h=>?_) (fun h=>?_)
 ·exact done g (by rw [show cR s=1 from e1.trans (ai (f.trans h))] <;> rfl)
 ·exact done g (by rw [show cR s=0 from e1.trans (ag (by rw [f,h]; decide))] <;> rfl)

theorem B7 {t:T} {S:ae} {cs:List Value} (h:RdT S cs t):Pure Tryz.prog SH [.agg cs.toArray] S (.bool (eA t)):=by
 intro w a;obtain ⟨kv,rfl,_,_,g,f⟩:=RdT.iff.1 h;obtain ⟨k,n,s,ks⟩:=t;simp only [T.name,T.kids,T.kind,T.n] at g f ⊢;refine ER.2 ?_;dsimp only[ER,aO];refine bJ a fun i w' a=>?_;refine af a 0 rfl aW aG rfl ?_;refine bw ?_;rw [show eA (.mk k n s ks)=(decide (k=3) && (decide (s=⟨#[33]⟩) && decide (ks.length=0))) from rfl];cases l:decide (k=3)
 ·refine rpG ?_;exact done a rfl
 ·refine rpG ?_;refine af a 0 rfl bl be rfl ?_;refine bR ?_;cases m:decide (s=⟨#[33]⟩)
  ·refine rpG ?_;exact done a rfl
  ·refine rpG ?_;refine af a 0 rfl ar al rfl ?_;refine aJ f ah ?_;refine bw ?_;refine rpG ?_;exact done a (by simp)

theorem oA {t:T} {S:ae} {cs:List Value} (h:RdT S cs t):Pure Tryz.prog NC [.agg cs.toArray] S (.bool (dH t)):=by
 intro w a;obtain ⟨kv,rfl,_,_,g,f⟩:=RdT.iff.1 h;obtain ⟨k,n,s,ks⟩:=t;simp only [T.name,T.kids,T.kind,T.n] at g f ⊢;refine zW.2 ?_;dsimp only[zW,aO];refine bJ a fun i w' a=>?_;refine af a 0 rfl aW aG rfl ?_;refine bw ?_;rw [show dH (.mk k n s ks)=(decide (k=3) && (mr s && (!eU s ks.length && decide (cR s=0)))) from rfl];cases l:decide (k=3)
 ·refine rpG ?_;exact done a rfl
 ·refine rpG ?_;refine af a 0 rfl bl be rfl ?_;refine Run.callPure CZ Cz a (zS s g S) fun w' a=>?_;cases m:mr s
  ·refine rpG ?_;exact done a rfl
  ·refine rpG ?_;refine af a 0 rfl bl be rfl ?_;refine af a 0 rfl ar al rfl ?_;refine aJ f ah ?_;refine Run.callPure uF tp a (pJ s _ S) fun w' a=>?_;refine cw ?_;cases o:eU s ks.length
   ·refine rpG ?_;refine af a 0 rfl bl be rfl ?_;refine Run.callPure gq gw a (eG s S) fun w' a=>?_;refine bw ?_;refine rpG ?_;exact done a rfl
   ·refine rpG ?_;exact done a rfl

theorem LF {t:T} {S:ae} {cs:List Value} (h:RdT S cs t):Pure Tryz.prog Ph [.agg cs.toArray] S (.bool (eA t || (dH t || bV t))):=by
 intro w a;have g:=h;obtain ⟨kv,rfl,_,_,i,f⟩:=RdT.iff.1 h;obtain ⟨k,n,s,ks⟩:=t;simp only [T.name,T.kids,T.kind,T.n] at g i f ⊢;refine Cu.2 ?_;dsimp only[Cu,aO];refine bJ a fun l w' a=>?_;refine aC a 0 ad rfl rfl ?_;refine Run.callPure Fq F9 a (B7 g) fun w' a=>?_;cases m:eA (.mk k n s ks)
 ·refine rpG ?_;refine aC a 0 ad rfl rfl ?_;refine Run.callPure qp qg a (oA g) fun w' a=>?_;cases o:dH (.mk k n s ks)
  ·refine rpG ?_;refine af a 0 rfl aW aG rfl ?_;refine bw ?_;rw [show bV (.mk k n s ks)=(decide (k=3) && eU s ks.length) from rfl];cases q:decide (k=3)
   ·refine rpG ?_;exact done a rfl
   ·refine rpG ?_;refine af a 0 rfl bl be rfl ?_;refine af a 0 rfl ar al rfl ?_;refine aJ f ah ?_;refine Run.callPure uF tp a (pJ s _ S) fun w' a=>?_;refine rpG ?_;exact done a rfl
  ·refine rpG ?_;exact done a rfl
 ·refine rpG ?_;exact done a rfl

theorem Sv {t:T} (h:wT t<=1048576):dG t<=4611686018427387904:=by
 have:=U6 t;omega
theorem oX {t:T} {S:ae} {cs:List Value} (h:RdT S cs t) (hc:wT t<=1048576):Pure Tryz.prog Ij [.agg cs.toArray] S (.bool (eN t)):=by
 intro w a;have hl:=h.length;refine tq.2 ?_;dsimp only[tq,aO];refine bJ a fun f w' a=>?_;refine aC a 0 ad rfl (by simpa [Value.cells] using hl) ?_;refine Run.callPure uE sW a (pH h (Sv hc)) fun w' a=>?_;rw [eN];cases g:d4 t
 ·refine rpG ?_;exact done a rfl
 ·refine rpG ?_;refine aC a 0 ad rfl (by simpa [Value.cells] using hl) ?_;refine Run.callPure N3 Nh a (LF h) fun w' a=>?_;refine rpG ?_;exact done a rfl


theorem mZ {ts:List T} {t:T} (h:t∈ts):wT t<=wL ts:=by
 induction ts with
 | nil=>simp at h
 | cons u us a=>
  rw [wL];rcases bY.1 h with rfl|h
  ·omega
  ·have:=a h; omega
theorem i0 {c:C} {S:ae} {cs:List Value} (h:RdC S cs c) (hc:wC c<=1048576):Pure Tryz.prog Dv [.agg cs.toArray] S (.bool (bt c)):=by
 intro w a;obtain ⟨hd,ks,rfl,O,J⟩:=h;have B:=O;obtain ⟨kv,rfl,g1,g2,g3,g4⟩:=RdT.iff.1 O;have D:=J.le;simp only [maxLen] at D;unfold wC at hc;refine pY.2 ?_;dsimp only[pY,aO];refine bJ a fun N w' a=>?_;refine ⟨fun i w'=>∃ k:Nat,k<=c.body.length/\k<=7/\i=.int .i64 k/\(∀ j (h:j<c.body.length),j<k->eN c.body[j]=true)/\Inv w [] [.blk N (.cells #[.int .i64 c.head.kind,.int .i64 c.head.n,.string c.head.name,kv,ks] ac)] S w',
  fun i _=>c.body.length - (intOf i).toNat,⟨0,bk _,by omega,rfl,fun j _ h=>by omega,a⟩,?_⟩
 intro t3 _ _ _ _ _ _ _ _ _ _ _ _ _ _ _ _ _ _ _ w';rintro ⟨k,hk,U,rfl,q,a⟩;refine ⟨fun t w'=>t=.bool (decide (k<c.body.length/\k<=6))/\Inv w [] [.blk N (.cells #[.int .i64 c.head.kind,.int .i64 c.head.n,.string c.head.name,kv,ks] ac)] S w',?_,?_⟩
 ·refine af a 0 rfl aT al rfl ?_;refine aJ J ah ?_;refine bT ?_;by_cases g:(k:Int)<c.body.length
  ·rw [aN g];refine rpG ?_;refine fP ?_;refine rpG ?_;refine ⟨?_,a⟩
   congr 1
   rw [oh]; simp; omega
  ·rw [aZ g];refine rpG ?_;exact ⟨by rw [aZ (by omega)],a⟩
 intro t _ _ _ _ _ _ _ _ w';rintro ⟨rfl,a⟩;refine aL (fun g=>?_) (fun g=>?_)
 ·obtain ⟨m,a0⟩:=g;refine af a 0 rfl aT al rfl ?_;refine cn a J ah ad m (fun _ _=>RdT.length) fun Y r=>?_;have a1:=mZ (bG m);refine Run.callPure tX uk a (oX r (by omega)) fun w' a=>?_;refine cw ?_;refine aD (fun M=>done a ?_) (fun M=>?_)
  ·have o:eN c.body[k]=false:=by simpa using M
   have:c.body.all eN=false:=by
    rw [<- Mq,dE];intro f;rw [f _ (bG m)] at o;cases o
   rw [bt,this];simp
  ·have o:eN c.body[k]=true:=by simpa using M
   refine bC (by omega) ?_;refine ⟨⟨k+1,m,by omega,rfl,fun j l Z=>?_,a⟩,by simp [intOf]; omega⟩;by_cases e:j=k
   ·subst e; exact o
   ·exact q j l (by omega)
 ·refine af a 0 rfl aT al rfl ?_;refine aJ J ah ?_;refine fP ?_;rw [bt];by_cases G:c.body.length<=6
  ·have f:c.body.all eN=true:=by
    rw [dE];intro x V;obtain ⟨j,l,rfl⟩:=BR V;exact q j l (by omega)
   rw [aN (show (c.body.length:Int)<=6 by omega),aN G,f];refine rpG ?_;refine aw bO ?_;refine dB a 0 [.int .i64 c.head.kind,.int .i64 c.head.n,.string c.head.name,kv] ad rfl rfl ?_ ?_
   ·intro j v l
    match j with
    | 0|1|2|3=>exact l
    | j+4=>simp at l
   refine Run.callPure uE sW a (pH B (Sv (by omega))) fun w' a=>?_;cases hv:d4 c.head
   ·refine rpG ?_;exact done a rfl
   ·refine rpG ?_;refine aw bO ?_;refine dB a 0 [.int .i64 c.head.kind,.int .i64 c.head.n,.string c.head.name,kv] ad rfl rfl ?_ ?_
    ·intro j v l
     match j with
     | 0|1|2|3=>exact l
     | j+4=>simp at l
    refine Run.callPure qp qg a (oA B) fun w' a=>?_;refine rpG ?_;exact done a rfl
  ·rw [aZ (show ¬ (c.body.length:Int)<=6 by omega),aZ G];refine rpG ?_;exact done a rfl

theorem xe {xs:List T} {S:ae} {v:Value} (h:RdSl S 4 (RdT S) v xs) (hc:wL xs<=1048576):Pure Tryz.prog FQ [v] S (.bool (dZ xs)):=by
 intro w a;have r:=h.le;simp only [maxLen] at r;refine rn.2 ?_;dsimp only[rn,aO];refine ⟨fun i w'=>∃ k:Nat,k<=xs.length/\k<=6+1/\i=.int .i64 k/\(∀ j (h:j<xs.length),j<k->eN xs[j]=true)/\Inv w [] [] S w',
  fun i _=>xs.length - (intOf i).toNat,⟨0,bk _,by omega,rfl,fun j _ h=>by omega,a⟩,?_⟩
 intro Y _ _ _ _ _ _ _ _ _ _ _ _ _ _ _ _ _ w';rintro ⟨k,hk,J,rfl,o,a⟩;refine ⟨fun t w'=>t=.bool (decide (k<xs.length/\k<=6))/\Inv w [] [] S w',?_,?_⟩
 ·refine aJ h ah ?_;refine bT ?_;by_cases g:(k:Int)<xs.length
  ·rw [aN g];refine rpG ?_;refine fP ?_;refine rpG ?_;refine ⟨?_,a⟩
   congr 1
   rw [oh]; simp; omega
  ·rw [aZ g];refine rpG ?_;exact ⟨by rw [aZ (by omega)],a⟩
 intro t _ _ _ _ _ _ _ w';rintro ⟨rfl,a⟩;refine aL (fun g=>?_) (fun g=>?_)
 ·obtain ⟨l,U⟩:=g;refine cn a h ah ad l (fun _ _=>RdT.length) fun N q=>?_;have V:=mZ (bG l);refine Run.callPure tX uk a (oX q (by omega)) fun w' a=>?_;refine cw ?_;refine aD (fun D=>done a ?_) (fun D=>?_)
  ·have m:eN xs[k]=false:=by simpa using D
   have:xs.all eN=false:=by
    rw [<- Mq,dE];intro f;rw [f _ (bG l)] at m;cases m
   rw [dZ,this,xI]
  ·have m:eN xs[k]=true:=by simpa using D
   refine bC (by omega) ?_;refine ⟨⟨k+1,l,by omega,rfl,fun j G O=>?_,a⟩,by simp [intOf]; omega⟩;by_cases e:j=k
   ·subst e; exact m
   ·exact o j G (by omega)
 ·refine aJ h ah ?_;refine fP ?_;rw [dZ];refine done a ?_;by_cases B:xs.length<=6
  ·have f:xs.all eN=true:=by
    rw [dE];intro x M;obtain ⟨j,G,rfl⟩:=BR M;exact o j G (by omega)
   rw [aN (show (xs.length:Int)<=6 by omega),aN B,f]; rfl
  ·rw [aZ (show ¬ (xs.length:Int)<=6 by omega),aZ B]; rfl
theorem lg {xs:List C} {S:ae} {v:Value} (h:RdSl S 5 (RdC S) v xs) (hc:wP xs<=1048576):Pure Tryz.prog BI [v] S (.bool (c8 xs)):=by
 intro w a;have r:=h.le;simp only [maxLen] at r;refine nG.2 ?_;dsimp only[nG,aO];refine ⟨fun i w'=>∃ k:Nat,k<=xs.length/\k<=20+1/\i=.int .i64 k/\(∀ j (h:j<xs.length),j<k->bt xs[j]=true)/\Inv w [] [] S w',
  fun i _=>xs.length - (intOf i).toNat,⟨0,bk _,by omega,rfl,fun j _ h=>by omega,a⟩,?_⟩
 intro Y _ _ _ _ _ _ _ _ _ _ _ _ _ _ _ _ _ w';rintro ⟨k,hk,J,rfl,o,a⟩;refine ⟨fun t w'=>t=.bool (decide (k<xs.length/\k<=20))/\Inv w [] [] S w',?_,?_⟩
 ·refine aJ h bf ?_;refine bT ?_;by_cases g:(k:Int)<xs.length
  ·rw [aN g];refine rpG ?_;refine fP ?_;refine rpG ?_;refine ⟨?_,a⟩
   congr 1
   rw [oh]; simp; omega
  ·rw [aZ g];refine rpG ?_;exact ⟨by rw [aZ (by omega)],a⟩
 intro t _ _ _ _ _ _ _ w';rintro ⟨rfl,a⟩;refine aL (fun g=>?_) (fun g=>?_)
 ·obtain ⟨l,U⟩:=g;refine cn a h bf aH l (fun _ _=>RdC.length) fun N q=>?_;have V:=K9 (bG l);refine Run.callPure j7 kl a (i0 q (by omega)) fun w' a=>?_;refine cw ?_;refine aD (fun D=>done a ?_) (fun D=>?_)
  ·have m:bt xs[k]=false:=by simpa using D
   have:xs.all bt=false:=by
    rw [<- Mq,dE];intro f;rw [f _ (bG l)] at m;cases m
   rw [c8,this,xI]
  ·have m:bt xs[k]=true:=by simpa using D
   refine bC (by omega) ?_;refine ⟨⟨k+1,l,by omega,rfl,fun j G O=>?_,a⟩,by simp [intOf]; omega⟩;by_cases e:j=k
   ·subst e; exact m
   ·exact o j G (by omega)
 ·refine aJ h bf ?_;refine fP ?_;rw [c8];refine done a ?_;by_cases B:xs.length<=20
  ·have f:xs.all bt=true:=by
    rw [dE];intro x M;obtain ⟨j,G,rfl⟩:=BR M;exact o j G (by omega)
   rw [aN (show (xs.length:Int)<=20 by omega),aN B,f]; rfl
  ·rw [aZ (show ¬ (xs.length:Int)<=20 by omega),aZ B]; rfl

theorem QA (s:ByteArray) (S:ae):Pure Tryz.prog Wr [.string s] S (.bool (decide (0<cR s))):=by
 intro w a;refine IY.2 ?_;dsimp only[IY,aO];refine Run.callPure Mf K8 a (DO s S) fun w' a=>?_;refine av rfl ?_;refine av rfl ?_;refine eP ?_;exact done a rfl
theorem ot {t:T} {S:ae} {cs:List Value} (h:RdT S cs t):Pure Tryz.prog Nl [.agg cs.toArray] S (.bool (bV t)):=by
 intro w a;obtain ⟨kv,rfl,_,_,g,f⟩:=RdT.iff.1 h;obtain ⟨k,n,s,ks⟩:=t;simp only [T.name,T.kids,T.kind,T.n] at g f ⊢;refine yH.2 ?_;dsimp only[yH,aO];refine bJ a fun i w' a=>?_;refine af a 0 rfl aW aG rfl ?_;refine bw ?_;rw [show bV (.mk k n s ks)=(decide (k=3) && eU s ks.length) from rfl];cases l:decide (k=3)
 ·refine rpG ?_;exact done a rfl
 ·refine rpG ?_;refine af a 0 rfl bl be rfl ?_;refine af a 0 rfl ar al rfl ?_;refine aJ f ah ?_;refine Run.callPure GW Fm a (AA s _ S) fun w' a=>?_;refine rpG ?_;exact done a rfl
theorem oE {t:T} {S:ae} {cs:List Value} (h:RdT S cs t):Pure Tryz.prog MP [.agg cs.toArray] S (.bool (dH t)):=by
 intro w a;have i:=h;obtain ⟨kv,rfl,_,_,g,f⟩:=RdT.iff.1 h;obtain ⟨k,n,s,ks⟩:=t;simp only [T.name,T.kids,T.kind,T.n] at i g f ⊢;refine xW.2 ?_;dsimp only[xW,aO];refine bJ a fun o w' a=>?_;refine af a 0 rfl aW aG rfl ?_;refine bw ?_;have l:bV (.mk k n s ks)=(decide (k=3) && eU s ks.length):=rfl;rw [show dH (.mk k n s ks)=(decide (k=3) && (mr s && (!eU s ks.length && decide (cR s=0)))) from rfl];cases m:decide (k=3)
 ·refine rpG ?_;exact done a rfl
 ·rw [m] at l;refine rpG ?_;refine af a 0 rfl bl be rfl ?_;refine Run.callPure tk tU a (sa s g S) fun w' a=>?_;cases q:mr s
  ·refine rpG ?_;exact done a rfl
  ·refine rpG ?_;refine af a 0 rfl bl be rfl ?_;refine Run.callPure SY SV a (QA s S) fun w' a=>?_;refine cw ?_;rw [Tm];cases r:decide (cR s=0)
   ·refine rpG ?_;exact done a (by simp)
   ·refine rpG ?_;refine aC a 0 ad rfl rfl ?_;refine Run.callPure qq qj a (ot i) fun w' a=>?_;refine cw ?_;refine rpG ?_;exact done a (by rw [l]; simp)
theorem yX {t:T} {S:ae} {cs:List Value} (h:RdT S cs t):Pure Tryz.prog Pv [.agg cs.toArray] S (.bool (UT t)):=by
 intro w a;obtain ⟨kv,rfl,_,_,g,f⟩:=RdT.iff.1 h;obtain ⟨k,n,s,ks⟩:=t;simp only [T.name,T.kids,T.kind,T.n] at g f ⊢;refine Ct.2 ?_;dsimp only[Ct,aO];refine bJ a fun i w' a=>?_;refine af a 0 rfl aW aG rfl ?_;refine bw ?_;rw [show UT (.mk k n s ks)=(decide (k=3) && decide (ks.length=0)) from rfl];cases l:decide (k=3)
 ·refine rpG ?_;exact done a rfl
 ·refine rpG ?_;refine af a 0 rfl ar al rfl ?_;refine aJ f ah ?_;refine bw ?_;refine rpG ?_;exact done a (by simp)
theorem ub {t:T} {S:ae} {cs:List Value} (h:RdT S cs t):Pure Tryz.prog Js [.agg cs.toArray] S (.bool (eA t)):=by
 intro w f;have i:=h;obtain ⟨kv,rfl,_,_,l,g⟩:=RdT.iff.1 h;obtain ⟨k,n,s,ks⟩:=t;simp only [T.name,T.kids,T.kind,T.n] at i l g ⊢;refine Er.2 ?_;dsimp only[Er,aO];refine bJ f fun o w' f=>?_;refine aC f 0 ad rfl rfl ?_;refine Run.callPure Cp CU f (yX i) fun w' f=>?_;rw [show eA (.mk k n s ks)=(decide (k=3) && (decide (s=⟨#[33]⟩) && decide (ks.length=0))) from rfl];cases a:UT (.mk k n s ks)
 ·refine rpG ?_;refine done f ?_
  replace a:(decide (k=3) && decide (ks.length=0))=false:=a
  cases m:decide (k=3)
  ·rfl
  ·rw [m,eH] at a;rw [a,xI]; rfl
 ·refine rpG ?_;refine af f 0 rfl bl be rfl ?_;refine bR ?_;refine rpG ?_;refine done f ?_
  replace a:(decide (k=3) && decide (ks.length=0))=true:=a
  rw [bM] at a;rw [a.1,a.2]; simp
theorem Ap {t:T} {S:ae} {cs:List Value} (h:RdT S cs t):Pure Tryz.prog HU [.agg cs.toArray] S (.bool (eN t)):=by
 intro w a;have hl:=h.length;refine tV.2 ?_;dsimp only[tV,aO];refine bJ a fun f w' a=>?_;refine aC a 0 ad rfl (by simpa [Value.cells] using hl) ?_;refine Run.callPure tw tD a (pP h) fun w' a=>?_;rw [eN];cases g:d4 t
 ·refine rpG ?_;exact done a rfl
 ·refine rpG ?_;refine aC a 0 ad rfl (by simpa [Value.cells] using hl) ?_;refine Run.callPure qH qz a (oE h) fun w' a=>?_;cases i:dH t
  ·refine rpG ?_;refine aC a 0 ad rfl (by simpa [Value.cells] using hl) ?_;refine Run.callPure qq qj a (ot h) fun w' a=>?_;cases l:bV t
   ·refine rpG ?_;refine aC a 0 ad rfl (by simpa [Value.cells] using hl) ?_;refine Run.callPure xb xq a (ub h) fun w' a=>?_;refine rpG ?_;exact done a (by simp)
   ·refine rpG ?_;exact done a (by simp)
  ·refine rpG ?_;exact done a (by simp)

theorem Eb {α:Type} (p:α->Bool):∀ xs:List α,(!xs.any fun x=>!p x)=xs.all p
 | []=>rfl
 | x::xs=>by
  rw [fy,JI,<- Eb p xs];cases p x <;> simp

theorem vm {x:T} {S:ae} {cs:List Value} (h:RdT S cs x):Pure Tryz.prog pA [.agg cs.toArray] S (.bool (!eN x)):=by
 intro w a;have hl:=h.length;refine ni.2 ?_;dsimp only[ni,aO];refine bJ a fun f w' a=>?_;refine aC a 0 ad rfl (by simpa [Value.cells] using hl) ?_;refine Run.callPure Gz G9 a (Ap h) fun w' a=>?_;refine cw (done a rfl)
theorem nP {xs:List T} {S:ae} {v:Value} (h:RdSl S 4 (RdT S) v xs):Pure Tryz.prog E3 [v] S (.bool (dZ xs)):=by
 intro w a;refine r5.2 ?_;dsimp only[r5,aO];refine aJ h ah ?_;refine fP ?_;rw [dZ];by_cases f:xs.length<=6
 ·rw [aN (show (xs.length:Int)<=6 by omega),aN f];refine rpG ?_;have i:Cb Tryz.prog pA _ [] S (fun _:Unit=>[]) (fun _=>True) (fun _ x=>(!eN x,())) (fun v x=>∃ cs,v=.agg cs.toArray/\RdT S cs x) xs:=
   Cb.pure [] zw yi fun x v _=>by
    rintro ⟨cs,rfl,g⟩ l a;exact (vm g l a).mono fun e w' ⟨m,a⟩=>⟨_,_,_,m,a,Ext.refl _ _ _,rfl,rfl,rfl⟩
  refine Run.call0 eL eJ a (gV i h (st:=()) trivial) fun o I' S' w'=>?_;rintro ⟨rfl,rfl,rfl⟩ _ a;refine cw ?_;refine rpG ?_;refine done a ?_;rw [jZ (fun x=>!eN x) xs,Eb]; rfl
 ·rw [aZ (show ¬ (xs.length:Int)<=6 by omega),aZ f];refine rpG ?_;exact done a rfl
theorem mL {c:C} {S:ae} {cs:List Value} (h:RdC S cs c):Pure Tryz.prog Dp [.agg cs.toArray] S (.bool (bt c)):=by
 intro w a;obtain ⟨hd,ks,rfl,l,m⟩:=h;have g:=l;obtain ⟨kv,rfl,q,r,t,B⟩:=RdT.iff.1 l;have i:bt c=(d4 c.head && (dH c.head && dZ c.body)):=by
  unfold bt dZ;cases d4 c.head <;> cases dH c.head <;> simp
 refine p7.2 ?_;dsimp only[p7,aO];rw [i];refine bJ a fun o w' a=>?_;refine aw bO ?_;refine dB a 0 [.int .i64 c.head.kind,.int .i64 c.head.n,.string c.head.name,kv] ad rfl rfl ?_ ?_
 ·intro j v f
  match j with
  | 0|1|2|3=>exact f
  | j+4=>simp at f
 refine Run.callPure tw tD a (pP g) fun w' a=>?_;cases D:d4 c.head
 ·refine rpG ?_;exact done a rfl
 ·refine rpG ?_;refine aw bO ?_;refine dB a 0 [.int .i64 c.head.kind,.int .i64 c.head.n,.string c.head.name,kv] ad rfl rfl ?_ ?_
  ·intro j v f
   match j with
   | 0|1|2|3=>exact f
   | j+4=>simp at f
  refine Run.callPure qH qz a (oE g) fun w' a=>?_;cases G:dH c.head
  ·refine rpG ?_;exact done a rfl
  ·refine rpG ?_;refine af a 0 rfl aT al rfl ?_;refine Run.callPure rH sd a (nP m) fun w' a=>?_;refine rpG ?_;exact done a rfl

theorem se {x:C} {S:ae} {cs:List Value} (h:RdC S cs x):Pure Tryz.prog mu [.agg cs.toArray] S (.bool (!bt x)):=by
 intro w a;have hl:=h.length;refine lF.2 ?_;dsimp only[lF,aO];refine bJ a fun f w' a=>?_;refine aC a 0 aH rfl (by simpa [Value.cells] using hl) ?_;refine Run.callPure pR pe a (mL h) fun w' a=>?_;refine cw (done a rfl)
theorem iJ {xs:List C} {S:ae} {v:Value} (h:RdSl S 5 (RdC S) v xs):Pure Tryz.prog Bn [v] S (.bool (c8 xs)):=by
 intro w a;refine nX.2 ?_;dsimp only[nX,aO];refine aJ h bf ?_;refine fP ?_;rw [c8];by_cases f:xs.length<=20
 ·rw [aN (show (xs.length:Int)<=20 by omega),aN f];refine rpG ?_;have i:Cb Tryz.prog mu _ [] S (fun _:Unit=>[]) (fun _=>True) (fun _ x=>(!bt x,())) (fun v x=>∃ cs,v=.agg cs.toArray/\RdC S cs x) xs:=
   Cb.pure [] vw vk fun x v _=>by
    rintro ⟨cs,rfl,g⟩ l a;exact (se g l a).mono fun e w' ⟨m,a⟩=>⟨_,_,_,m,a,Ext.refl _ _ _,rfl,rfl,rfl⟩
  refine Run.call0 oq oG a (qR i h (st:=()) trivial) fun o I' S' w'=>?_;rintro ⟨rfl,rfl,rfl⟩ _ a;refine cw ?_;refine rpG ?_;refine done a ?_;rw [jZ (fun x=>!bt x) xs,Eb]; rfl
 ·rw [aZ (show ¬ (xs.length:Int)<=20 by omega),aZ f];refine rpG ?_;exact done a rfl
theorem zh {xs:List T} {S:ae} {v:Value} (h:RdSl S 4 (RdT S) v xs):Pure Tryz.prog GP [v] S (.bool (dZ xs)):=by
 intro w a;refine rG.2 ?_;dsimp only[rG,aO];refine Run.callPure rH sd a (nP h) fun w' a=>done a rfl
end
section
open Go Go.RowKit
attribute [local irreducible] Run CondV aq aK

def RowRd (S:ae) (v:Value) (e:TypeId) (k n:Nat) (xs:List Value):Prop:=
 xs.length=n * k/\((v=.slice none 0 0/\n=0) ∨ ∃ g cap cur,v=.slice (some ⟨g,0,none⟩) n cap/\S g=some (.cells cur e)/\n<=cap/\cap<=maxLen/\cur.size=cap * k/\cur.toList.take (n * k)=xs)
theorem Inv.lend {w0 w:World} {X:List Nat} {A:List Item} {S:ae} {v:Value} {e:TypeId} {k n:Nat} {xs:List Value} (h:Inv w0 X (A++[.row v e k n xs]) S w) :
  ∃ S',Sle S S'/\RowRd S' v e k n xs/\Inv w0 X A S' w/\∀ B w',Inv w0 X B S' w'->Inv w0 X (B++[.row v e k n xs]) S w':=by
 have N:w.ownsRow 0 e k v n xs:=h.its (.row v e k n xs) (by simp);obtain ⟨hl,N⟩:=N;rcases N with ⟨rfl,rfl⟩|⟨g,cap,i,rfl,_,hg,D,G,J,U⟩
 ·have:xs=[]:=gF (by rw [hl,Az]);subst this;exact ⟨S,Sle.refl S,⟨hl,.inl ⟨rfl,rfl⟩⟩,h.sub (dw _ _),fun B w' l=>l.rowNil e k⟩
 ·have hf:bP (A++[Item.blk g (.cells i e)])=bP (A++[Item.row (.slice (some ⟨g,0,none⟩) n cap) e k n xs]):=by
   simp [bP,Item.foot,Value.ownBlock]
  have q:g∈bP (A++[Item.row (.slice (some ⟨g,0,none⟩) n cap) e k n xs]):=by simp [bP,Item.foot,Value.ownBlock]
  have h':Inv w0 X (A++[Item.blk g (.cells i e)]) S w:=by
   refine ⟨h.size,h.os,h.tape,h.output,h.old,fun it hit=>?_,by rw [hf]; exact h.nd,by rw [hf]; exact h.new,by rw [hf]; exact h.pub⟩;rcases bF.1 hit with hit|hit
   ·exact h.its it (cZ _ hit)
   ·simp at hit;subst hit;exact hg
  obtain ⟨Y,Z⟩:=h'.publishLast;refine ⟨pI S g (.cells i e),Z,⟨hl,.inr ⟨g,cap,i,rfl,by simp [pI],D,G,J,U⟩⟩,Y,fun B w' l=>?_⟩;have r:=l.pub g (.cells i e) (by simp [pI]);have m:bP (B++[Item.row (.slice (some ⟨g,0,none⟩) n cap) e k n xs])=bP B++[g]:=by simp [bP,Item.foot,Value.ownBlock]
  refine ⟨l.size,l.os,l.tape,l.output,l.old,fun it hit=>?_,?_,?_,?_⟩
  ·rcases bF.1 hit with hit|hit
   ·exact l.its it hit
   ·simp at hit;subst hit;exact ⟨hl,.inr ⟨g,cap,i,rfl,bk _,r.1,D,G,J,U⟩⟩
  ·rw [m,oD];refine ⟨l.nd,by simp,fun a V b O=>?_⟩;simp at O;subst O;intro M;subst M;exact r.2 V
  ·intro c hc;rw [m] at hc;rcases bF.1 hc with hc|hc
   ·exact l.new c hc
   ·simp at hc;subst hc;exact h.new _ q
  ·intro c o hc;have t:c≠g:=fun M=>by
    subst M;exact (h.pub c o hc).2 q
   have:=l.pub c o (by simp only [pI]; rw [ag t]; exact hc);refine ⟨this.1,?_⟩;rw [m];intro f;rcases bF.1 f with f|f
   ·exact this.2 f
   ·simp at f;exact t f
theorem Ra {α:Type} (f:α->List Value) (k:Nat) (hf:∀ y,(f y).length=k):∀ (ys:List α) (i:Nat) (h:i<ys.length),((ys.flatMap f).drop (i * k)).take k=f ys[i]
 | [],i,h=>by simp at h
 | y::ys,0,h=>by
  rw [rV,Az,xL,EX (by rw [hf]; exact aS _),Lr (by rw [hf]; exact aS _)];rfl
 | y::ys,i+1,h=>by
  rw [rV,iX,tM,<- Rn,List.drop_left' (hf y)];exact Ra f k hf ys i (by simpa using h)
theorem RowRd.rd {α:Type} {S:ae} {v:Value} {e:TypeId} {k:Nat} {f:α->List Value} {R:List Value->α->Prop} {ys:List α} (hf:∀ y,(f y).length=k) (hR:∀ y∈ys,R (f y) y)
  (h:RowRd S v e k ys.length (ys.flatMap f)):RdSl S k R v ys:=by
 obtain ⟨hl,h⟩:=h;rcases h with ⟨rfl,r⟩|⟨g,cap,l,rfl,t,m,o,B,D⟩
 ·have:ys=[]:=gF r;subst this;exact ⟨none,0,rfl,aS _,bk _,.inl rfl⟩
 ·refine ⟨_,cap,rfl,m,o,.inr ⟨g,0,l,e,(0,0),rfl,t,fun i a=>?_⟩⟩;have:=Ra f k hf ys i a;have q:i * k+k<=ys.length * k:=by rw [<- iX]; exact gN k a
  rw [<- D,FN,lo,lu (by omega)] at this;rw [aX,cQ,this];exact hR _ (bG a)

def ints (ns:List Int):List Value:=ns.flatMap fun n=>[.int .i64 n]
abbrev dk (v:Value) (ns:List Int):Item:=.row v cN 1 ns.length (ints ns)
theorem pL (ns:List Int) (n:Int):ints ns++[.int .i64 n]=ints (ns++[n]):=by simp [ints]
theorem RowRd.ints {S:ae} {v:Value} {e:TypeId} {ns:List Int} (h:RowRd S v e 1 ns.length (ints ns)):RdSl S 1 jz v ns:=
 RowRd.rd (f:=fun n=>[Value.int .i64 n]) (fun _=>rfl) (fun _ _=>rfl) h
def vt (l:List Int) (n:Int):Bool:=l.any fun x=>decide (n=x)
def jk (l:List Int) (n:Int):List Int:=if vt l n=true then l else l++[n]
theorem L9 (l:List Int) (n:Int):(jk l n).length<=l.length+1:=by
 unfold jk;split <;> simp

theorem rU (s:Int) {xs:List Int} {S:ae} {v:Value} (h:RdSl S 1 jz v xs) :
  Pure Tryz.prog Hw [v,.int .i64 s] S (.int .i64 (cm (σ:=Unit) (fun _ x=>(decide (s=x),())) () xs 0).1):=by
 intro w g;have l:=h.le;simp only [maxLen] at l;refine uC.2 ?_;dsimp only[uC,bm];refine aJ h cz ?_;refine ⟨fun i w'=>∃ k:Nat,k<=xs.length/\i=.int .i64 k/\cm (σ:=Unit) (fun _ x=>(decide (s=x),())) () (xs.drop k) k=cm (σ:=Unit) (fun _ x=>(decide (s=x),())) () xs 0/\Inv w [] [] S w',
  fun i _=>xs.length - (intOf i).toNat,⟨0,bk _,rfl,rfl,g⟩,?_⟩
 intro r _ _ _ _ _ _ _ _ _ _ _ _ w';rintro ⟨k,hk,rfl,a,g⟩;refine bT ?_;refine aL (fun m=>?_) (fun m=>?_)
 ·have f:k<xs.length:=by omega
  rw [dY f,cm] at a;refine ff g h cz aG f (fun cs o=>o) ?_;refine bw ?_;refine aL (fun q=>done g ?_) (fun q=>?_)
  ·rw [<- a,ai (by simpa using q)]
  ·refine bC (by omega) ?_;rw [ag (by simpa using q)] at a;exact ⟨⟨k+1,f,rfl,a,g⟩,by simp [intOf]; omega⟩
 ·have:k=xs.length:=by omega
  subst this;rw [eD,cm] at a;exact done g (by rw [<- a])
theorem mw (s:Int) {xs:List Int} {S:ae} {v:Value} (h:RdSl S 1 jz v xs):Pure Tryz.prog Bf [v,.int .i64 s] S (.bool (vt xs s)):=by
 intro w a;refine nU.2 ?_;dsimp only[nU,bm];refine Run.callPure sB s5 a (rU s h) fun w' a=>?_;refine jM (done a ?_);rw [(jX _ xs () 0).1,jZ]; rfl
theorem AN {σ:Type} {f:FuncId} {fn:Func} {cap:List Value} {S:ae} {It:σ->List Item} {ok:σ->Prop} {step:σ->Int->Bool × σ} {xs:List Int} {v:Value}
  (m:Cb Tryz.prog f fn cap S It ok step (fun v x=>v=.int .i64 x) xs) (h:RdSl S 1 jz v xs) {st:σ} (G:ok st) :
  Tri Tryz.prog zG [v,fv f cap] (It st) S fun r I' S'=>r=.int .i64 (cm step st xs 0).1/\I'=It (cm step st xs 0).2/\S'=S:=by
 intro w q;have B:=h.le;simp only [maxLen] at B;refine my.2 ?_;dsimp only[my,bm];refine aJ h cz ?_;refine ⟨fun i w'=>∃ (k:Nat) (g:σ),k<=xs.length/\i=.int .i64 k/\ok g/\cm step g (xs.drop k) k=cm step st xs 0/\Inv w (bP (It st)) (It g) S w',fun i _=>xs.length - (intOf i).toNat,
  ⟨0,st,bk _,rfl,G,rfl,q⟩,?_⟩
 intro O _ _ _ _ _ _ _ _ _ _ _ _ w';rintro ⟨k,g,hk,rfl,t,l,q⟩;refine bT ?_;refine aL (fun J=>?_) (fun J=>?_)
 ·have o:k<xs.length:=by omega
  have N:=bG o;have a:cm step g (xs.drop k) k=if (step g xs[k]).1 then ((k:Int),(step g xs[k]).2) else cm step (step g xs[k]).2 (xs.drop (k+1)) (k+1):=by
   rw [dY o,cm]
  refine ff q h cz aG o (fun cs M=>M) ?_;refine Run.callV (A:=[]) (args:=[.int .i64 xs[k]]) m.hf m.hn (by simpa using q) (m.call g _ _ N t rfl) fun U I' S' w'=>?_;rintro ⟨rfl,rfl,rfl⟩ _ q;refine aD (fun D=>?_) (fun D=>?_)
  ·rw [ai D] at a;refine ⟨_,_,_,rfl,by simpa using q,Ext.refl _ _ _,?_,?_,rfl⟩
   ·rw [<- l,a]
   ·rw [<- l,a]
  ·refine bC (by omega) ?_;rw [D] at a;refine ⟨⟨k+1,_,o,rfl,m.keep g _ N t D,?_,by simpa using q⟩,by simp [intOf]; omega⟩;rw [<- l,a];rfl
 ·have:k=xs.length:=by omega
  subst this;rw [eD,cm] at l;exact ⟨_,_,_,rfl,q,Ext.refl _ _ _,by rw [<- l],by rw [<- l],rfl⟩
theorem ve {σ:Type} {f:FuncId} {fn:Func} {cap:List Value} {S:ae} {It:σ->List Item} {ok:σ->Prop} {step:σ->Int->Bool × σ} {xs:List Int} {v:Value}
  (a:Cb Tryz.prog f fn cap S It ok step (fun v x=>v=.int .i64 x) xs) (h:RdSl S 1 jz v xs) {st:σ} (g:ok st) :
  Tri Tryz.prog sV [v,fv f cap] (It st) S fun r I' S'=>r=.bool (sk step st xs).1/\I'=It (sk step st xs).2/\S'=S:=by
 intro w i;refine jR.2 ?_;dsimp only[jR,bm];refine Run.call (A:=[]) wU xj (by simpa using i) (AN a h g) fun m I' S' w'=>?_;rintro ⟨rfl,rfl,rfl⟩ _ i;refine jM ?_;have l:=jX step xs st 0;exact ⟨_,_,_,rfl,by simpa using i,Ext.refl _ _ _,by rw [l.1],by rw [l.2],rfl⟩
end
end Go.Proofs.YtgllldjiaglkcaaGreatDoor
