/- Data that a function has made for itself: trees of blocks that nobody else knows. -/
import Derived.Test.YtjbcdmheajljpaaGreatZRdA
import Derived.Test.YtjbcdmheajljpaaGreatZRcF
import Derived.Test.YtjbcdmheajljpaaGreatZRcgz
namespace Go.Proofs.YtjbcdmheajljpaaGreat
attribute [local irreducible] Run CondV aI bg
section
open Go Go.RowKit

abbrev bN:=List (Nat × Obj)
def bO (L:bN):List Item:=L.map fun p=>.blk p.1 p.2
theorem ft (L M:bN):bO (L++M)=bO L++bO M:=by simp [bO]
def Ins (S:ai) (L:bN):Prop:=∀ p∈L,S p.1=some p.2
theorem Ins.mono {S S':ai} {L:bN} (h:Ins S L) (a:Sle S S'):Ins S' L:=fun p g=>a _ _ (h p g)
theorem Ins.left {S:ai} {L M:bN} (h:Ins S (L++M)):Ins S L:=fun p a=>h p (gf _ a)
theorem Ins.right {S:ai} {L M:bN} (h:Ins S (L++M)):Ins S M:=fun p a=>h p (gy _ a)
theorem ln {L:bN} {b:Nat}:b∈cg (bO L)↔∃ p∈L,p.1=b:=by
 simp only [cg,bO,List.mem_flatMap,ob];constructor
 ·rintro ⟨it,⟨p,a,rfl⟩,g⟩;simp only [Item.foot,bM] at g;exact ⟨p,a,g.symm⟩
 ·rintro ⟨p,a,rfl⟩;exact ⟨_,⟨p,a,rfl⟩,by simp [Item.foot]⟩

theorem Inv.publishAll {w0 w:World} {X:List Nat} {A:List Item}:∀ (L:bN) {S:ai},Inv w0 X (A++bO L) S w->
  ∃ S',Inv w0 X A S' w/\Sle S S'/\Ins S' L/\∀ b o,S' b=some o->S b=some o ∨ b∈cg (bO L)
 | [],S,h=>⟨S,by simpa [bO] using h,Sle.refl S,by intro p m;simp at m,fun b o i=>.inl i⟩
 | p::L,S,h=>by
  have D:(A++bO (p::L))[A.length]?=some (.blk p.1 p.2):=by simp [bO]
  obtain ⟨j,r⟩:=h.publish D;have G:(A++bO (p::L)).eraseIdx A.length=A++bO L:=by simp [bO,List.eraseIdx_append_of_length_le]
  rw [G] at j;obtain ⟨S',t,l,B,C⟩:=publishAll L j;refine ⟨S',t,r.trans l,fun q a=>?_,fun b o i=>?_⟩
  ·rcases dK.1 a with rfl|a
   ·exact l _ _ (by simp [oJ])
   ·exact B q a
  ·rcases C b o i with g|g
   ·simp only [oJ] at g;split at g
    ·rename_i e;right;rw [ln];exact ⟨p,bF ..,e.symm⟩
    ·exact .inl g
   ·right;obtain ⟨q,a,e⟩:=ln.1 g;exact ln.2 ⟨q,bI _ a,e⟩

def TrSl {α:Type} (k:Nat) (R:bN->List Value->α->Prop) (L:bN) (v:Value) (xs:List α):Prop:=
 ∃ a cap,v=.slice a xs.length cap/\xs.length<=cap/\cap<=maxLen/\
  ((xs=[]/\L=[]) ∨ ∃ b c E,∃ Ls:List bN,a=some ⟨b,0,none⟩/\L=(b,.cells c E)::Ls.flatten/\Ls.length=xs.length/\cap * k<=c.size/\
   ∀ i (h:i<xs.length) (h':i<Ls.length),R Ls[i] (bJ c (i * k) k) xs[i])
inductive TrT:bN->List Value->T->Prop
 | nil {k n:Int} {s:ByteArray} {a:Option Addr} {cap:Nat} (hk:inI k) (hn:inI n) (hs:s.size<=maxLen) (hc:cap<=maxLen) :
   TrT [] [.int .i64 k,.int .i64 n,.string s,.slice a 0 cap] (.mk k n s [])
 | cons {k n:Int} {s:ByteArray} {kids:List T} {b cap:Nat} {c:Array Value} {E:TypeId} {Ls:List bN} (hk:inI k) (hn:inI n) (hs:s.size<=maxLen) (hl:kids.length<=cap) (hc:cap<=maxLen)
   (hLs:Ls.length=kids.length) (hsz:cap * 4<=c.size) (h:∀ i (h:i<kids.length) (h':i<Ls.length),TrT Ls[i] (bJ c (i * 4) 4) kids[i]) :
   TrT ((b,.cells c E)::Ls.flatten) [.int .i64 k,.int .i64 n,.string s,.slice (some ⟨b,0,none⟩) kids.length cap] (.mk k n s kids)
theorem TrT.iff {L:bN} {cs:nA} {t:T}:TrT L cs t ↔
  ∃ ks,cs=[ee t.kind,ee t.n,.string t.name,ks]/\inI t.kind/\inI t.n/\t.name.size<=maxLen/\TrSl 4 TrT L ks t.kids:=by
 constructor
 ·intro h;cases h with
  | nil hk hn j hc=>exact ⟨_,rfl,hk,hn,j,_,_,rfl,aT _,hc,.inl ⟨rfl,rfl⟩⟩
  | cons hk hn j l hc g i h=>exact ⟨_,rfl,hk,hn,j,_,_,rfl,l,hc,.inr ⟨_,_,_,_,rfl,rfl,g,i,h⟩⟩
 ·obtain ⟨k,n,s,kids⟩:=t;rintro ⟨ks,rfl,hk,hn,j,a,cap,rfl,l,hc,h⟩;rcases h with ⟨h,rfl⟩|⟨b,c,E,Ls,rfl,rfl,g,i,h⟩
  ·simp only [T.kids] at h;subst h;exact TrT.nil hk hn j hc
  ·exact TrT.cons hk hn j l hc g i h
theorem TrT.length {L:bN} {cs:nA} {t:T} (h:TrT L cs t):cs.length=4:=by
 obtain ⟨ks,rfl,_⟩:=TrT.iff.1 h;rfl
theorem TrT.one {L:bN} {cs:nA} {t:T} (h:TrT L cs t):∀ u∈cs,u.oneCell'=true:=by
 obtain ⟨ks,rfl,_,_,_,a,cap,rfl,_⟩:=TrT.iff.1 h;intro u g;simp at g;rcases g with rfl|rfl|rfl|rfl <;> rfl
theorem RdT.one {S:ai} {cs:nA} {t:T} (h:RdT S cs t):∀ u∈cs,u.oneCell'=true:=by
 obtain ⟨ks,rfl,_,_,_,a,cap,rfl,_⟩:=RdT.iff.1 h;intro u g;simp at g;rcases g with rfl|rfl|rfl|rfl <;> rfl
theorem K9 {S:ai} {Ls:List bN} (h:Ins S Ls.flatten) {i:Nat} (a:i<Ls.length):Ins S Ls[i]:=
 fun p g=>h p (List.mem_flatten.2 ⟨_,cO a,g⟩)
theorem TrSl.rd {α:Type} {S:ai} {k:Nat} {R:bN->nA->α->Prop} {R':nA->α->Prop} {L:bN} {v:Value} {xs:List α} (h:TrSl k R L v xs) (g:Ins S L)
  (hR:∀ L cs x,Ins S L->R L cs x->R' cs x):RdSl S k R' v xs:=by
 obtain ⟨a,cap,rfl,m,hc,h⟩:=h;refine ⟨a,cap,rfl,m,hc,?_⟩;rcases h with ⟨h,_⟩|⟨b,c,E,Ls,rfl,rfl,o,q,h⟩
 ·exact .inl h
 ·refine .inr ⟨b,0,c,E,(0,0),rfl,g _ (bF ..),fun i j=>?_⟩;rw [cS];exact hR _ _ _ (K9 (fun p l=>g p (bI _ l)) (by omega)) (h i j (by omega))
theorem TrT.rd {S:ai} {L:bN} {cs:nA} {t:T} (h:TrT L cs t) (g:Ins S L):RdT S cs t:=by
 induction h with
 | nil hk hn a hc=>exact RdT.nil hk hn a hc
 | cons hk hn a m hc q r h B=>
  refine RdT.cons hk hn a m hc (g _ (bF ..)) (o:=0) fun i j=>?_;rw [cS];exact B i j (by omega) (K9 (fun p l=>g p (bI _ l)) (by omega))
def TrC (L:bN) (cs:List Value) (c:C):Prop:=∃ hd ks L1 L2,cs=hd++[ks]/\L=L1++L2/\TrT L1 hd c.head/\TrSl 4 TrT L2 ks c.body
theorem TrC.rd {S:ai} {L:bN} {cs:nA} {c:C} (h:TrC L cs c) (a:Ins S L):RdC S cs c:=by
 obtain ⟨g,ks,L1,L2,rfl,rfl,i,j⟩:=h;exact ⟨g,ks,rfl,i.rd a.left,j.rd a.right fun _ _ _ a h=>h.rd a⟩
theorem TrC.length {L:bN} {cs:nA} {c:C} (h:TrC L cs c):cs.length=5:=by
 obtain ⟨g,ks,L1,L2,rfl,rfl,a,i⟩:=h;simp [a.length]
theorem TrC.one {L:bN} {cs:nA} {c:C} (h:TrC L cs c):∀ u∈cs,u.oneCell'=true:=by
 obtain ⟨j,ks,L1,L2,rfl,rfl,i,a,cap,rfl,_⟩:=h;intro u g;rcases cU.1 g with g|g
 ·exact i.one u g
 ·simp at g;subst g;rfl

section
variable {P:Program} {w w0:World} {X:List Nat} {L:List Item} {S:ai} {K:Value->World->Prop}
theorem Run.call0 {f:FuncId} {fn:Func} {args:nA} {Post:Value->List Item->ai->Prop}
  (hf:P.funcs[f]?=some fn) (hn:(fn.name == "runtime.NumGoroutine" || fn.body.isNone)=false) (h:Inv w0 X L S w) (hc:Tri P f args [] S Post)
  (hk:∀ v I' S' w',Post v I' S'->Sle S S'->Inv w0 X (L++I') S' w'->K v w'):Run P (gn (.func (.func f) #[] #[]) args) w K:=
 Run.call (A:=L) (I:=[]) hf hn (by simpa using h) hc hk
theorem cq {T U ty h E:TypeId} {f d b:Nat} {c:Array Value} {v:Value} (l:Inv w0 X L S w) (i:Nat) (m:L[i]?=some (ei b c E)) (hf:cz P T f=some d) (o:kA P U=true) (a:Nat.blt d c.size=true)
  (j:v.cells=#[v]) (p:v.oneCell'=true)
  {K:Value->Value->World->Prop} (hk:∀ w',Inv w0 X (L.set i (ei b (c.setIfInBounds d v) E)) S w'->K (kh b d) undef w') :
  Run P (sOp (.fieldAddr T (.const (hV b)) f) ty) w fun q w'=>Run P (sOp (.store U (.const q) (.const v)) h) w' (K q):=by
 have a:d<c.size:=by simpa [Nat.blt_eq] using a
 refine ax hf ?_;rw [cS];refine eV l i (n:=1) (by rw [j];rfl) (by rw [o];rfl) m (by omega) (by rw [j];simpa using p) fun w' g=>hk w' ?_;have:cu c d v.cells.toList=c.setIfInBounds d v:=by
  rw [j];apply Da.1;simp only [cu,W4];have r:d<c.toList.length:=by simpa using a
  rw [sx,ag r];simp
 rw [this] at g;exact g
theorem LR {T ty E:TypeId} {o b n:Nat} {c:Array Value} {v:Value} (g:Inv w0 X L S w) (i:Nat) (h:L[i]?=some (ei b c E)) (j:oL P T=some n) (hn:v.cells.size=n) (a:Nat.ble (o+n) c.size=true)
  (l:∀ u∈v.cells.toList,u.oneCell'=true) (hk:∀ w',Inv w0 X (L.set i (ei b (cu c o v.cells.toList) E)) S w'->K undef w') :
  Run P (sOp (.store T (.const (kh b o)) (.const v)) ty) w K:=
 eV g i hn (by rw [j];simp) h (D1 a) l hk
theorem aj {T ty E:TypeId} {b n:Nat} {c cs:Array Value} (g:Inv w0 X L S w) (i:Nat) (h:L[i]?=some (ei b c E)) (j:oL P T=some n) (hn:cs.size=n) (hc:c.size=n)
  (l:∀ u∈cs.toList,u.oneCell'=true) (hk:∀ w',Inv w0 X (L.set i (ei b cs E)) S w'->K undef w') :
  Run P (sOp (.store T (.const (hV b)) (.const (.agg cs))) ty) w K:=by
 refine eV g i (v:=.agg cs) (n:=n) hn (by rw [j];simp) h (by omega) l fun w' a=>hk w' ?_;have:cu c 0 (Value.agg cs).cells.toList=cs:=by
  rw [zt _ _ (by simp [Value.cells,hn,hc])];simp [Value.cells]
 rw [this] at a;exact a
end

theorem TrSl.nil {α:Type} {k:Nat} {R:bN->nA->α->Prop} {a:Option Addr} {cap:Nat} (hc:cap<=maxLen):TrSl k R [] (.slice a 0 cap) ([]:List α):=
 ⟨a,cap,rfl,aT _,hc,.inl ⟨rfl,rfl⟩⟩
def Part {α:Type} (k:Nat) (R:bN->List Value->α->Prop) (c:Array Value) (Ls:List bN) (xs:List α):Prop:=
 Ls.length=xs.length/\∀ i (h:i<xs.length) (h':i<Ls.length),R Ls[i] (bJ c (i * k) k) xs[i]
theorem Part.nil {α:Type} (k:Nat) (R:bN->nA->α->Prop) (c:Array Value):Part k R c [] ([]:List α):=⟨rfl,fun i h=>by simp at h⟩
theorem Part.snoc {α:Type} {k:Nat} {R:bN->nA->α->Prop} {c:Array Value} {Ls:List bN} {xs:List α} (h:Part k R c Ls xs) {cs:nA} {L:bN} {x:α} (o:R L cs x) (l:cs.length=k)
  (a:(xs.length+1) * k<=c.size):Part k R (cu c (xs.length * k) cs) (Ls++[L]) (xs++[x]):=by
 have hf:xs.length * k+cs.length<=c.size:=by rw [l];rw [hY,oD] at a;exact a
 refine ⟨by simp [h.1],fun i p q=>?_⟩;by_cases j:i<xs.length
 ·have g:i<Ls.length:=by rw [h.1];exact j
  rw [qR g,qR j,iF hf]
  ·exact h.2 i j g
  ·left;have:(i+1) * k<=xs.length * k:=fK _ j;rw [hY,oD] at this;exact this
 ·have m:i=xs.length:=by simp at p;omega
  subst m;have g:xs.length=Ls.length:=h.1.symm;rw [rQ (by omega),rQ (by omega)];simp only [g,fB,pQ];rw [<- g,<- l,gE (by rw [l] at hf ⊢;exact hf)];exact o
theorem Part.sl {α:Type} {k:Nat} {R:bN->nA->α->Prop} {b:Nat} {c:Array Value} {E:TypeId} {Ls:List bN} {xs:List α} {cap:Nat} (h:Part k R c Ls xs) (a:xs.length<=cap) (g:cap<=maxLen) (i:cap * k<=c.size) :
  TrSl k R ((b,.cells c E)::Ls.flatten) (kt b 0 xs.length cap) xs:=
 ⟨_,cap,rfl,a,g,.inr ⟨b,c,E,Ls,rfl,rfl,h.1,i,h.2⟩⟩
end
section
open Go Go.RowKit
section
variable {P:Program} {w:World} {K:Value->World->Prop} {ty:TypeId}
theorem lw {a:Bool} {v:Value} {A:Prop} (i:a=true->A) (hf:a=false->K (.bool false) w):aI (.bool a) true A (Run P (sOp (.pick (.const (.bool a)) (.const v) (.const (.bool false))) ty) w K):=
 Qo i fun h=>by
  have g:a=false:=by simpa using h
  refine wa ?_;rw [g];exact hf g
theorem je {a:Bool} {v u:Value} (g:a=true) (hk:K v w):Run P (sOp (.pick (.const (.bool a)) (.const v) (.const u)) ty) w K:=by
 refine wa ?_;rw [g];exact hk
theorem qf {v:Value} {A:Prop} (hk:K (.bool false) w):aI (.bool false) true A (Run P (sOp (.pick (.const (.bool false)) (.const v) (.const (.bool false))) ty) w K):=
 lw (fun h=>by cases h) fun _=>hk
theorem Jg {a:Bool} {v:Value} {A:Prop} (i:a=true->K (.bool true) w) (hf:a=false->A):aI (.bool a) false A (Run P (sOp (.pick (.const (.bool a)) (.const (.bool true)) (.const v)) ty) w K):=
 Qo hf fun h=>by
  have g:a=true:=by simpa using h
  refine wa ?_;rw [g];exact i g
theorem BQ {a:Bool} {v u:Value} (g:a=false) (hk:K v w):Run P (sOp (.pick (.const (.bool a)) (.const u) (.const v)) ty) w K:=by
 refine wa ?_;rw [g];exact hk
theorem Y7 {v:Value} {A:Prop} (hk:K (.bool true) w):aI (.bool true) false A (Run P (sOp (.pick (.const (.bool true)) (.const (.bool true)) (.const v)) ty) w K):=
 Jg (fun _=>hk) fun h=>by cases h
end

def xK (cs:List Value) (s:ByteArray):Prop:=cs=[.string s]
def kH (cs:List Value) (n:Int):Prop:=cs=[ee n]
section
variable {P:Program} {w w0:World} {X:List Nat} {L:List Item} {S:ai} {K:Value->World->Prop}
theorem oK (h:Inv w0 X L S w) {s:Sem Next} {v:Nat->Value} {o:Obj} (a:s.run P w=.ok (.value (v w.heap.size)) { w with heap:=w.heap.push o })
  (hk:∀ b w',Inv w0 X (L++[.blk b o]) S w'->K (v b) w'):Run P s w K:=Run.of a (hk _ _ (h.alloc o))
theorem Inv.publishLast {b:Nat} {o:Obj} (h:Inv w0 X (L++[.blk b o]) S w):Inv w0 X L (oJ S b o) w/\Sle S (oJ S b o):=by
 have a:(L++[Item.blk b o])[L.length]?=some (.blk b o):=by simp
 have:=h.publish a
 rwa [show (L++[Item.blk b o]).eraseIdx L.length=L by simp [List.eraseIdx_append_of_length_le]] at this
theorem jq {α:Type} {T U ty a E:TypeId} {R:nA->α->Prop} {v u:Value} {xs:List α} (j:Inv w0 X L S w) (h:RdSl S 1 R v xs) (l:dI P T=some (E,1)) (m:kA P U=true)
  {i:Nat} (g:i<xs.length) (hR:∀ cs,R cs xs[i]->cs=[u]) {K:Value->Value->World->Prop} (hk:K (elP v (i * 1)) u w) :
  Run P (sOp (.indexAddr T (.const v) (.const (ee i))) ty) w fun p w'=>Run P (sOp (.load U (.const p)) a) w' (K p):=by
 obtain ⟨b,o,cap,c,E',t,rfl,q,r⟩:=h.at_ g;refine aN l g ?_;refine eD m ?_ hk;rw [j.cellS q];exact bf (hR _ r) 0 u rfl
end
theorem RdSl.ofCells {α:Type} {S:ai} {R:nA->α->Prop} {b n:Nat} {c:Array Value} {E:TypeId} {a:Nat × Nat} {xs:List α} (g:S b=some (.cells c E a)) (hn:xs.length=n) (j:n<=maxLen)
  (h:∀ i (h:i<xs.length),R (bJ c i 1) xs[i]):RdSl S 1 R (kt b 0 n n) xs:=by
 subst hn;exact ⟨_,_,rfl,aY _,j,.inr ⟨b,0,c,E,a,rfl,g,fun i l=>by rw [cS,Nat.mul_one];exact h i l⟩⟩
end
section
open Go

def signs:List ByteArray:=[⟨#[43]⟩,⟨#[45]⟩,⟨#[42]⟩,⟨#[47,47]⟩,⟨#[61]⟩,⟨#[92,61]⟩,⟨#[61,61]⟩,⟨#[60]⟩,⟨#[62]⟩,⟨#[61,60]⟩,⟨#[62,61]⟩,⟨#[61,58,61]⟩,⟨#[46]⟩,⟨#[91,93]⟩,⟨#[33]⟩]
def sK (b:UInt8):Bool:=decide (97<=b.toNat) && decide (b.toNat<=122)
def sN (s:ByteArray):Bool:=s.data.toList.all sK
def mf (s:ByteArray):Bool:=sN s && (decide (1<=s.size) && decide (s.size<=6))
def fw (s:ByteArray):Bool:=mf s || signs.any fun x=>decide (x=s)
def emptyB:ByteArray:=⟨#[]⟩
def fR (t:T):Bool:=
 if t.kind=1 then decide (0<=t.n) && (decide (t.n<=25) && (decide (t.name=emptyB) && decide (t.kids.length=0)))
 else if t.kind=2 then decide (-999<=t.n) && (decide (t.n<=999) && (decide (t.name=emptyB) && decide (t.kids.length=0)))
 else if t.kind=3 then decide (t.n=0) && (fw t.name && decide (t.kids.length<=4))
 else false
mutual
def dC:T->Int->Bool
 | .mk k n s ks,d=>if d<1 then false else fR (.mk k n s ks) && de ks (d - 1)
def de:List T->Int->Bool
 | [],_=>true
 | t::ts,d=>dC t d && de ts d
end
mutual
def bR:T->Int
 | .mk _ _ _ ks=>1+bo ks
def bo:List T->Int
 | []=>0
 | t::ts=>bR t+bo ts
end
mutual
def l4:T->Int->Int
 | .mk _ _ _ ks,most=>iy ks 1 most
def iy:List T->Int->Int->Int
 | [],n,_=>n
 | t::ts,n,most=>if n<=most then iy ts (n+l4 t (most - n)) most else n
end
def bY (t:T):Bool:=dC t 30 && decide (bR t<=120)

mutual
theorem dw:∀ t:T,1<=bR t
 | .mk _ _ _ ks=>by simp only [bR]; have:=ch ks; omega
theorem ch:∀ ts:List T,0<=bo ts
 | []=>by simp [bo]
 | t::ts=>by simp only [bo]; have:=dw t; have:=ch ts; omega
end
mutual
theorem Aj:∀ (t:T) (a:Int),0<=a->(bR t<=a->l4 t a=bR t)/\(a<bR t->a<l4 t a/\l4 t a<=bR t)
 | .mk _ _ _ ks,a,h=>by
  simp only [bR,l4];have:=I7 ks 1 a h (by omega);exact this
theorem I7:∀ (ts:List T) (n a:Int),0<=a->1<=n->(n+bo ts<=a->iy ts n a=n+bo ts)/\(a<n+bo ts->a<iy ts n a/\iy ts n a<=n+bo ts)
 | [],n,a,h,h1=>by
  simp only [bo,iy];exact ⟨fun _=>by omega,fun _=>by omega⟩
 | t::ts,n,a,h,h1=>by
  simp only [bo,iy];have m:=dw t;have o:=ch ts;by_cases hn:n<=a
  ·rw [ag hn];have i:=Aj t (a - n) (by omega);by_cases hc:bR t<=a - n
   ·rw [i.1 hc];have j:=I7 ts (n+bR t) a h (by omega);exact ⟨fun g=>by rw [j.1 (by omega)]; omega,fun g=>by have:=j.2 (by omega); omega⟩
   ·have p:=i.2 (by omega);have l:iy ts (n+l4 t (a - n)) a=n+l4 t (a - n):=by
     cases ts with
     | nil=>rfl
     | cons u us=>rw [iy,ae (by omega)]
    rw [l];exact ⟨fun g=>by omega,fun g=>by omega⟩
  ·rw [ae hn];exact ⟨fun g=>by omega,fun g=>by omega⟩
end
theorem Sy (t:T):decide (l4 t 120<=120)=decide (bR t<=120):=by
 have h:=Aj t 120 (by omega);by_cases hc:bR t<=120
 ·rw [h.1 hc]
 ·have:=h.2 (by omega);rw [aM (by omega),aM hc]

mutual
def gN:T->Int->Int->Bool × Int
 | .mk k n s ks,deep,c=>
  if 120<c+1 ∨ 30<deep then (false,c+1)
  else if k=1 ∨ k=2 then (fR (.mk k n s ks),c+1)
  else if k=3 then (if fR (.mk k n s ks) then ng ks (deep+1) (c+1) else (false,c+1))
  else (false,c+1)
def ng:List T->Int->Int->Bool × Int
 | [],_,c=>(true,c)
 | t::ts,deep,c=>if (gN t deep c).1 then ng ts deep (gN t deep c).2 else (false,(gN t deep c).2)
end
theorem LT {k n:Int} {s:ByteArray} {ks:List T} (h:fR (.mk k n s ks)=true) (hk:k=1 ∨ k=2):ks=[]:=by
 unfold fR at h;simp only [T.kind,T.n,T.name,T.kids] at h;rcases hk with rfl|rfl <;> simp at h <;> exact h.2.2.2
theorem Vv {k n:Int} {s:ByteArray} {ks:List T} (h:fR (.mk k n s ks)=true):k=1 ∨ k=2 ∨ k=3:=by
 unfold fR at h;simp only [T.kind,T.n,T.name,T.kids] at h;by_cases a:k=1
 ·exact .inl a
 ·by_cases g:k=2
  ·exact .inr (.inl g)
  ·by_cases i:k=3
   ·exact .inr (.inr i)
   ·simp [a,g,i] at h
mutual
theorem FL:∀ (t:T) (a c:Int),(gN t a c).1=(dC t (31 - a) && decide (c+bR t<=120))/\((gN t a c).1=true->(gN t a c).2=c+bR t)
 | .mk k n s ks,a,c=>by
  have m:=ch ks;rw [show bR (T.mk k n s ks)=1+bo ks from rfl];simp only [gN,dC];by_cases g:120<c+1 ∨ 30<a
  ·rw [ag g];refine ⟨?_,fun h=>by cases h⟩;rcases g with g|g
   ·rw [aM (show ¬ (c+(1+bo ks)<=120) by omega),zR]
   ·rw [ag (show 31 - a<1 by omega)]; rfl
  ·rw [ae g,ae (show ¬ (31 - a<1) by omega)];by_cases i:k=1 ∨ k=2
   ·rw [ag i];cases j:fR (.mk k n s ks) with
    | false=>exact ⟨rfl,fun h=>by cases h⟩
    | true=>
     have:=LT j i;subst this;rw [show bo []=0 from rfl];simp only [de,fk];exact ⟨by rw [aD (show c+(1+0)<=120 by omega)],fun _=>by omega⟩
   ·rw [ae i];by_cases l:k=3
    ·rw [ag l];cases j:fR (.mk k n s ks) with
     | false=>exact ⟨rfl,fun h=>by cases h⟩
     | true=>
      simp only [if_true,fk];have:=Mx ks (a+1) (c+1);rw [show 31 - (a+1)=31 - a - 1 by omega] at this;rw [show c+(1+bo ks)=c+1+bo ks by omega];refine ⟨?_,this.2⟩;rw [this.1];cases ks with
      | nil=>rw [show bo []=0 from rfl,aD (show c+1+0<=120 by omega)]; rfl
      | cons t ts=>simp
    ·rw [ae l];have j:fR (.mk k n s ks)=false:=by
      rw [<- Tp];intro h;rcases Vv h with e|e|e
      ·exact i (.inl e)
      ·exact i (.inr e)
      ·exact l e
     rw [j];exact ⟨rfl,fun h=>by cases h⟩
theorem Mx:∀ (ts:List T) (a c:Int),(ng ts a c).1=(de ts (31 - a) && (ts.isEmpty || decide (c+bo ts<=120)))/\((ng ts a c).1=true->(ng ts a c).2=c+bo ts)
 | [],a,c=>by simp [ng,de,bo]
 | t::ts,a,c=>by
  have g:=FL t a c;have p:=ch ts;rw [show bo (t::ts)=bR t+bo ts from rfl];simp only [ng,de,List.isEmpty_cons,jb];cases m:(gN t a c).1 with
  | false=>
   rw [m] at g;have i:=g.1;refine ⟨?_,fun h=>by cases h⟩;simp only [ta,if_false];cases j:dC t (31 - a) with
   | false=>rfl
   | true=>
    rw [j,fk] at i;have:¬ (c+bR t<=120):=of_decide_eq_false i.symm;rw [aM (show ¬ (c+(bR t+bo ts)<=120) by omega),zR]
  | true=>
   rw [m] at g;have i:=g.1;have o:=g.2 rfl;simp only [if_true];rw [o];have j:dC t (31 - a)=true/\c+bR t<=120:=by
    have:=i.symm;simpa using this
   have l:=Mx ts a (c+bR t);rw [show c+(bR t+bo ts)=c+bR t+bo ts by omega];refine ⟨?_,l.2⟩;rw [l.1,j.1,fk];cases ts with
   | nil=>rw [show bo []=0 from rfl,aD (show c+bR t+0<=120 by omega)]; rfl
   | cons u us=>simp
end
theorem Pw (t:T):(gN t 1 0).1=bY t:=by
 rw [(FL t 1 0).1,bY];simp
end
section
open Go Go.RowKit

mutual
def wT:T->Nat
 | .mk _ _ s ks=>s.size+ks.length+wL ks
def wL:List T->Nat
 | []=>0
 | t::ts=>wT t+wL ts
end
theorem ni:∀ {ts:List T} {t:T},t∈ts->wT t<=wL ts
 | x::xs,t,h=>by
  simp only [wL];rcases dK.1 h with rfl|h
  ·omega
  ·have:=ni h;omega

abbrev RN {α:Type} (k:Nat) (R:bN->List Value->α->Prop) (S:ai) (xs:List α):Value->List Item->ai->Prop:=
 fun v I' S'=>S'=S/\∃ L,I'=bO L/\TrSl k R L v xs
abbrev Fv (S:ai) (t:T):Value->List Item->ai->Prop:=fun v I' S'=>S'=S/\∃ cs L,v=.agg cs.toArray/\I'=bO L/\TrT L cs t

def wC (c:C):Nat:=wT c.head+c.body.length+wL c.body
def wP:List C->Nat
 | []=>0
 | c::cs=>wC c+wP cs
abbrev W9 (S:ai) (c:C):Value->List Item->ai->Prop:=fun v I' S'=>S'=S/\∃ cs L,v=.agg cs.toArray/\I'=bO L/\TrC L cs c
end
section
open Go Go.RowKit

theorem zF {α:Type} (p:α->Bool) (l:List α) (k:Nat) (h:k<l.length):(l.drop k).all p=(p l[k] && (l.drop (k+1)).all p):=by
 rw [ef h,RE]
theorem LO {α:Type} (p:α->Bool) (l:List α) (k:Nat) (h:k<l.length):(l.drop k).any p=(p l[k] || (l.drop (k+1)).any p):=by
 rw [ef h,gF]
theorem pT (s:ByteArray):s.data.toList.length=s.size:=by rw [Ox]; rfl
theorem N6 (s:ByteArray) (k:Nat) (h:k<s.size):s.data.toList[k]'(by rw [pT]; exact h)=s[k]:=rfl

theorem yx (s:ByteArray) (q:s.size<=maxLen) (S:ai):ru O2 [.string s] S (.bool (mf s)):=by
 intro w l;simp only [maxLen] at q;refine Cu.2 ?_;dsimp only[Cu,bd];refine ⟨fun i w'=>∃ k:Nat,k<=s.size/\i=ee k/\(s.data.toList.drop k).all sK=sN s/\Inv w [] [] S w',fun i _=>s.size - (intOf i).toNat,⟨0,aT _,rfl,rfl,l⟩,?_⟩;intro r _ _ _ _ _ _ _ _ _ _ _ _ _ _ _ _ _ w';rintro ⟨k,hk,rfl,g,l⟩;refine mV bm ?_;refine cd ?_;refine aJ (fun o=>?_) (fun o=>?_)
 ·have j:k<s.size:=by omega
  have a:=zF sK s.data.toList k (by rw [pT];exact j);rw [N6 s k j] at a;refine ⟨fun t w'=>t=.bool (!sK s[k])/\Inv w [] [] S w',?_,?_⟩
  ·refine mX bm j ?_;refine cd ?_;refine Jg (fun h=>⟨?_,l⟩) (fun h=>?_)
   ·have h:=of_decide_eq_true h;rw [sK,aM (show ¬ 97<=s[k].toNat by omega)];rfl
   ·refine mX bm j ?_;refine fL ?_;refine BQ h ⟨?_,l⟩;have h:=of_decide_eq_false h;rw [sK,aD (show 97<=s[k].toNat by omega),fk];by_cases m:s[k].toNat<=122
    ·rw [aD m,aM (by omega)];rfl
    ·rw [aM m,aD (by omega)];rfl
  intro t _ _ _ _ _ _ _ _ _ w';rintro ⟨rfl,l⟩;refine aL (fun h=>done l ?_) (fun h=>?_)
  ·simp at h;rw [mf,<- g,a,h];rfl
  ·simp at h;refine bL (by omega) ?_;refine ⟨⟨k+1,j,rfl,by rw [<- g,a,h];rfl,l⟩,by simp [intOf];omega⟩
 ·have:k=s.size:=by omega
  subst this;have p:sN s=true:=by rw [<- g,<- pT,eL];rfl
  refine mV bm ?_;refine iK ?_;refine lw (fun h=>?_) (fun h=>done l ?_)
  ·refine mV bm ?_;refine jK ?_;refine je h (done l ?_);have h:=of_decide_eq_true h;rw [mf,p,aD (show 1<=s.size by omega)];by_cases m:s.size<=6
   ·rw [aD m,aD (by omega)];rfl
   ·rw [aM m,aM (by omega)];rfl
  ·have h:=of_decide_eq_false h;rw [mf,p,aM (show ¬ 1<=s.size by omega)];rfl

def AW:Array Value:=(signs.map Value.string).toArray
theorem LY {S:ai} {b:Nat} {E:TypeId} (g:S b=some (.cells AW E)):RdSl S 1 xK (kt b 0 15 15) signs:=by
 refine RdSl.ofCells g rfl (by decide) ?_;intro i h;have a:i<15:=h
 match i,a with
 | 0,_|1,_|2,_|3,_|4,_|5,_|6,_|7,_|8,_|9,_|10,_|11,_|12,_|13,_|14,_=>rfl
abbrev HH (S:ai):Value->List Item->ai->Prop:=fun v I' S'=>I'=[]/\Sle S S'/\RdSl S' 1 xK v signs
theorem Gm {S:ai} {b n:Nat} {o:Obj} (h:n<=b) (a:Sle S (oJ S b o)):Ext n [] S (oJ S b o):=
 ⟨a,fun c o' hc=>by
  simp only [oJ] at hc;split at hc
  ·rename_i e;subst e;exact .inr (.inr h)
  ·exact .inl hc⟩
theorem u7 (S:ai):nB LW [] [] S (HH S):=by
 intro w g;refine zu.2 ?_;dsimp only[zu,nR];refine oK (v:=fun b=>.slice (some ⟨b,0,none⟩) 15 15) (o:=.cells AW fx) g (by kernel_rfl) fun b w' g=>?_;have a:w.heap.size<=b:=by
  rcases g.new b (by simp [cg,Item.foot]) with h|h
  ·simp [cg] at h
  ·exact h
 obtain ⟨j,i⟩:=Inv.publishLast (L:=[]) g;exact ⟨_,_,_,rfl,j,Gm a i,rfl,i,LY (by simp [oJ];rfl)⟩
theorem Nx (s:ByteArray) {xs:List ByteArray} {S:ai} {v:Value} (h:RdSl S 1 xK v xs):ru SY [v,.string s] S (.bool (xs.any fun x=>decide (x=s))):=by
 intro w l;have m:=h.le;simp only [maxLen] at m;refine GB.2 ?_;dsimp only[GB,bv];refine ⟨fun i w'=>∃ k:Nat,k<=xs.length/\i=ee k/\(xs.drop k).any (fun x=>decide (x=s))=xs.any (fun x=>decide (x=s))/\Inv w [] [] S w',fun i _=>xs.length - (intOf i).toNat,⟨0,aT _,rfl,rfl,l⟩,?_⟩;intro r _ _ _ _ _ _ _ _ _ _ _ _ _ w';rintro ⟨k,hk,rfl,a,l⟩;refine aO h dM ?_;refine cd ?_;refine aJ (fun o=>?_) (fun o=>?_)
 ·have j:k<xs.length:=by omega
  have g:=LO (fun x=>decide (x=s)) xs k j;refine jq l h dM aV j (fun cs p=>p) ?_;refine bT ?_;refine aL (fun q=>done l ?_) (fun q=>?_)
  ·rw [<- a,g,q];rfl
  ·refine bL (by omega) ?_;exact ⟨⟨k+1,j,rfl,by rw [<- a,g,q];rfl,l⟩,by simp [intOf];omega⟩
 ·have:k=xs.length:=by omega
  subst this;exact done l (by rw [<- a,eL];rfl)
theorem Ci {w w':World} {L:List Item} {S S':ai} {r a:Value} (h:Inv w [] L S' w') (g:Sle S S') (e:a=r):Ending.returned a=.returned r/\Inv w [] [] S w':=⟨by rw [e],h.nil.less g⟩
theorem kY (s:ByteArray) (i:s.size<=maxLen) (S:ai):ru Hl [.string s] S (.bool (fw s)):=by
 intro w a;refine sO.2 ?_;dsimp only[sO,bd];refine Run.callPure Bj BM a (yx s i S) fun w' a=>?_;refine Jg (fun h=>done a ?_) (fun h=>?_)
 ·rw [fw,h];rfl
 ·refine Run.call0 yF yU a (u7 S) fun v' I' S' w'=>?_;rintro ⟨rfl,_,j⟩ g a;refine Run.callPure Qt Ql a (Nx s j) fun w' a=>?_;refine BQ h (Ci a g ?_);rw [fw,h];rfl

theorem N8 {t:T} {S:ai} {cs:nA} (h:RdT S cs t):ru SA [.agg cs.toArray] S (.bool (fR t)):=by
 intro w a;obtain ⟨kv,rfl,_,_,q,o⟩:=RdT.iff.1 h;obtain ⟨k,n,s,ks⟩:=t;simp only [T.name,T.kids,T.kind,T.n] at q o ⊢;refine Ex.2 ?_;dsimp only[Ex,bd];refine bH a fun r w' a=>?_;refine ah a 0 rfl aW au rfl ?_;refine a9 ?_;refine aJ (fun hk=>?_) (fun hk=>?_)
 ·have j:fR (.mk k n s ks)=(decide (0<=n) && (decide (n<=25) && (decide (s=emptyB) && decide (ks.length=0)))):=by
   rw [fR];exact ag hk
  refine ah a 0 rfl aR au rfl ?_;refine iK ?_;refine lw (fun g=>?_) (fun g=>?_)
  ·refine ah a 0 rfl aR au rfl ?_;refine jK ?_;refine je g ?_;refine lw (fun i=>?_) (fun i=>?_)
   ·refine ah a 0 rfl bu aV rfl ?_;refine bT ?_;refine je i ?_;refine lw (fun l=>?_) (fun l=>done a ?_)
    ·refine ah a 0 rfl az aw rfl ?_;refine aO o ao ?_;refine a9 ?_;refine je l (done a ?_);rw [j,g,i,show decide (s=emptyB)=true from l];simp
    ·rw [j,g,i,show decide (s=emptyB)=false from l];rfl
   ·refine qf (done a ?_);rw [j,g,i];rfl
  ·refine qf (qf (done a ?_));rw [j,g];rfl
 refine a9 ?_;refine aJ (fun m=>?_) (fun m=>?_)
 ·have j:fR (.mk k n s ks)=(decide (-999<=n) && (decide (n<=999) && (decide (s=emptyB) && decide (ks.length=0)))):=by
   rw [fR];exact (ae hk).trans (ag m)
  refine ah a 0 rfl aR au rfl ?_;refine iK ?_;refine lw (fun g=>?_) (fun g=>?_)
  ·refine ah a 0 rfl aR au rfl ?_;refine jK ?_;refine je g ?_;refine lw (fun i=>?_) (fun i=>?_)
   ·refine ah a 0 rfl bu aV rfl ?_;refine bT ?_;refine je i ?_;refine lw (fun l=>?_) (fun l=>done a ?_)
    ·refine ah a 0 rfl az aw rfl ?_;refine aO o ao ?_;refine a9 ?_;refine je l (done a ?_);rw [j,g,i,show decide (s=emptyB)=true from l];simp
    ·rw [j,g,i,show decide (s=emptyB)=false from l];rfl
   ·refine qf (done a ?_);rw [j,g,i];rfl
  ·refine qf (qf (done a ?_));rw [j,g];rfl
 refine a9 ?_;refine aJ (fun p=>?_) (fun p=>done a ?_)
 ·have j:fR (.mk k n s ks)=(decide (n=0) && (fw s && decide (ks.length<=4))):=by
   rw [fR];exact (ae hk).trans ((ae m).trans (ag p))
  refine ah a 0 rfl aR au rfl ?_;refine a9 ?_;refine lw (fun g=>?_) (fun g=>?_)
  ·refine ah a 0 rfl bu aV rfl ?_;refine Run.callPure nj ne a (kY s q S) fun w' a=>?_;refine je g ?_;refine lw (fun i=>?_) (fun i=>done a ?_)
   ·refine ah a 0 rfl az aw rfl ?_;refine aO o ao ?_;refine jK ?_;refine je i (done a ?_);rw [j,g,i];simp;omega
   ·rw [j,g,i];rfl
  ·refine qf (done a ?_);rw [j,g];rfl
 ·rw [fR];exact congrArg Value.bool ((ae hk).trans ((ae m).trans (ae p))).symm

theorem Hc:∀ (t:T) (S:ai) (cs:nA) (d:Int),RdT S cs t->-1<=d->d<=1000->ru N7 [.agg cs.toArray,ee d] S (.bool (dC t d)):=by
 refine T.ind fun k n s ks U S cs d h h0 h1=>?_;intro w a;have J:=h;obtain ⟨kv,rfl,_,_,V,m⟩:=RdT.iff.1 h;simp only [T.name,T.kids,T.kind,T.n] at V m ⊢;have C:=m.le;simp only [maxLen] at C;refine wy.2 ?_;dsimp only[wy,bv];refine bH a fun M w' a=>?_;refine ⟨fun t w'=>t=.bool (decide (d<1) || !fR (.mk k n s ks))/\Inv w [] [ei M #[ee k,ee n,.string s,kv] ac] S w',?_,?_⟩
 ·refine cd ?_;refine Jg (fun h=>⟨by rw [h];rfl,a⟩) (fun h=>?_);refine aq a 0 af rfl rfl ?_;refine Run.callPure Pj Qp a (N8 J) fun w' a=>?_;refine c8 ?_;exact BQ h ⟨by rw [h];rfl,a⟩
 intro t _ _ _ _ _ _ w';rintro ⟨rfl,a⟩;refine aL (fun q=>done a ?_) (fun q=>?_)
 ·rw [dC];by_cases p:d<1
  ·rw [ag p]
  ·rw [ae p];simp [p] at q;rw [q];rfl
 have p:¬ d<1:=fun h=>by simp [h] at q
 have O:fR (.mk k n s ks)=true:=by simp [p] at q;exact q
 refine ⟨fun i w'=>∃ j:Nat,j<=ks.length/\i=ee j/\de (ks.drop j) (d - 1)=de ks (d - 1)/\Inv w [] [ei M #[ee k,ee n,.string s,kv] ac] S w',
  fun i _=>ks.length - (intOf i).toNat,⟨0,aT _,rfl,rfl,a⟩,?_⟩
 intro Y _ _ _ _ _ _ _ _ _ _ _ _ _ _ _ _ _ w';rintro ⟨j,Z,rfl,g,a⟩;refine ah a 0 rfl az aw rfl ?_;refine aO m ao ?_;refine cd ?_;refine aJ (fun D=>?_) (fun D=>?_)
 ·have o:j<ks.length:=by omega
  have l:de (ks.drop j) (d - 1)=(dC ks[j] (d - 1) && de (ks.drop (j+1)) (d - 1)):=by
   rw [ef o,de]
  refine ah a 0 rfl az aw rfl ?_;refine dj a m ao af o (fun _ _=>RdT.length) fun G r=>?_;refine jl (by omega) ?_;refine Run.callPure yl xY a (U _ (cO o) S G (d - 1) r (by omega) (by omega)) fun w' a=>?_;refine c8 ?_;refine aL (fun B=>done a ?_) (fun N=>?_)
  ·simp at B;rw [dC,ae p,O,<- g,l,B];rfl
  ·simp at N;refine bL (by omega) ?_;exact ⟨⟨j+1,o,rfl,by rw [<- g,l,N];rfl,a⟩,by simp [intOf];omega⟩
 ·have:j=ks.length:=by omega
  subst this;refine done a ?_;rw [dC,ae p,O,<- g,eL,de];rfl

theorem p7:∀ (ts:List T) (j:Nat) (h:j<ts.length),bo (ts.drop j)=bR ts[j]+bo (ts.drop (j+1)):=by
 intro ts j h;rw [ef h,bo]
theorem Hz:∀ (t:T) (S:ai) (cs:nA) (a:Int),RdT S cs t->0<=a->a<=1000->bR t<=4611686018427387904->ru ME [.agg cs.toArray,ee a] S (ee (l4 t a)):=by
 refine T.ind fun k n s ks V S cs a h h0 h1 hc=>?_;intro w l;obtain ⟨kv,rfl,_,_,Y,o⟩:=RdT.iff.1 h;simp only [T.name,T.kids,T.kind,T.n] at Y o ⊢;have B:=o.le;simp only [maxLen] at B;rw [show bR (T.mk k n s ks)=1+bo ks from rfl] at hc;refine zn.2 ?_;dsimp only[zn,bv];refine bH l fun M w' l=>?_;refine ⟨fun i m w'=>∃ (j:Nat) (c:Int),j<=ks.length/\i=ee j/\m=ee c/\1<=c/\c+bo (ks.drop j)<=1+bo ks/\iy (ks.drop j) c a=iy ks 1 a/\Inv w [] [ei M #[ee k,ee n,.string s,kv] ac] S w',
  fun i _ _=>ks.length - (intOf i).toNat,⟨0,1,aT _,rfl,rfl,by omega,by rw [fe];omega,rfl,l⟩,?_⟩
 intro t6 _ _ t5 _ _ _ _ _ _ _ _ _ _ _ _ _ _ _ _ _ _ _ _ _ w';rintro ⟨j,c,hj,rfl,rfl,O,U,p,l⟩;refine ⟨fun t w'=>t=.bool (decide (j<ks.length) && decide (c<=a))/\Inv w [] [ei M #[ee k,ee n,.string s,kv] ac] S w',?_,?_⟩
 ·refine ah l 0 rfl az aw rfl ?_;refine aO o ao ?_;refine cd ?_;refine lw (fun h=>?_) (fun h=>⟨?_,l⟩)
  ·refine jK ?_;refine je h ⟨?_,l⟩;rw [aD (show j<ks.length from by have:=of_decide_eq_true h;omega)];rfl
  ·rw [aM (show ¬ j<ks.length from by have:=of_decide_eq_false h;omega)];rfl
 intro t _ _ _ _ _ _ _ _ _ w';rintro ⟨rfl,l⟩;refine aL (fun D=>?_) (fun D=>done l ?_)
 ·simp at D;obtain ⟨g,J⟩:=D;have Z:=p7 ks j g;have q:iy (ks.drop j) c a=iy (ks.drop (j+1)) (c+l4 ks[j] (a - c)) a:=by
   rw [ef g,iy,ag J]
  have C:=Aj ks[j] (a - c) (by omega);have hp:=dw ks[j];have a0:=ch (ks.drop (j+1));have N:1<=l4 ks[j] (a - c)/\l4 ks[j] (a - c)<=bR ks[j]:=by
   by_cases hq:bR ks[j]<=a - c
   ·rw [C.1 hq];omega
   ·have:=C.2 (by omega);omega
  refine ah l 0 rfl az aw rfl ?_;refine dj l o ao af g (fun _ _=>RdT.length) fun G r=>?_;refine jl (by omega) ?_;refine Run.callPure yq xl l (V _ (cO g) S G (a - c) r (by omega) (by omega) (by omega)) fun w' l=>?_;refine bL (by omega) ?_;refine bL (by omega) ?_;exact ⟨⟨j+1,_,g,rfl,rfl,by omega,by omega,by rw [<- p,q],l⟩,by simp [intOf];omega⟩
 ·show Value.int .i64 c=Value.int .i64 (iy ks 1 a);rw [<- p];by_cases g:j<ks.length
  ·simp [g] at D;rw [ef g,iy,ae (by omega)]
  ·rw [uY (by omega),iy]

mutual
theorem wj:∀ t:T,bR t<=1+(wT t:Int)
 | .mk k n s ks=>by
  rw [show bR (T.mk k n s ks)=1+bo ks from rfl,wT];have:=Ej ks;omega
theorem Ej:∀ ts:List T,bo ts<=ts.length+(wL ts:Int)
 | []=>by simp [bo,wL]
 | t::ts=>by
  rw [show bo (t::ts)=bR t+bo ts from rfl,wL,aP];have:=wj t; have:=Ej ts;omega
end

theorem kV {t:T} {S:ai} {cs:nA} (h:RdT S cs t) (hc:bR t<=4611686018427387904):ru Hx [.agg cs.toArray] S (.bool (bY t)):=by
 intro w a;have i:=h.length;refine sc.2 ?_;dsimp only[sc,bd];refine bH a fun j w' a=>?_;refine aq a 0 af rfl (by simpa [Value.cells] using i) ?_;refine Run.callPure yl xY a (Hc t S cs 30 h (by omega) (by omega)) fun w' a=>?_;refine lw (fun g=>?_) (fun g=>done a ?_)
 ·refine aq a 0 af rfl (by simpa [Value.cells] using i) ?_;refine Run.callPure yq xl a (Hz t S cs 120 h (by omega) (by omega) hc) fun w' a=>?_;refine jK ?_;refine je g (done a ?_);rw [bY,g,Sy];rfl
 ·rw [bY,g];rfl
end
section
open Go Go.RowKit

def dZ {α σ:Type} (step:σ->α->Bool × σ):σ->List α->Nat->Int × σ
 | st,[],_=>(-1,st)
 | st,x::xs,k=>if (step st x).1 then ((k:Int),(step st x).2) else dZ step (step st x).2 xs (k+1)
def xZ {α σ:Type} (step:σ->α->Bool × σ):σ->List α->Bool × σ
 | st,[]=>(false,st)
 | st,x::xs=>if (step st x).1 then (true,(step st x).2) else xZ step (step st x).2 xs
theorem qc {α σ:Type} (step:σ->α->Bool × σ):∀ (xs:List α) (st:σ) (k:Nat),decide (0<=(dZ step st xs k).1)=(xZ step st xs).1/\(dZ step st xs k).2=(xZ step st xs).2
 | [],st,k=>by simp [dZ,xZ]
 | x::xs,st,k=>by
  by_cases h:(step st x).1=true
  ·simp [dZ,xZ,h]
  ·simpa [dZ,xZ,h] using qc step xs (step st x).2 (k+1)
theorem ud {α:Type} (p:α->Bool):∀ xs:List α,xZ (σ:=Unit) (fun _ x=>(p x,())) () xs=(xs.any p,())
 | []=>rfl
 | x::xs=>by
  simp only [xZ,gF];cases h:p x with
  | true=>rfl
  | false=>rw [ud p xs];rfl
abbrev fv (f:FuncId) (cap:List Value):Value:=.func (.func f) #[] cap.toArray
section
variable {P:Program} {w w0:World} {X:List Nat} {A I:List Item} {S:ai} {K:Value->World->Prop}
theorem Iy {P:Program} {f:FuncId} {fn:Func} {cap args:nA} {w:World} (hf:P.funcs[f]?=some fn) (hn:(fn.name == "runtime.NumGoroutine" || fn.body.isNone)=false) :
  (gn (fv f cap) args).run P w=.ok (.enter f (args++cap).toArray) w:=by
 simp only [QN] at hn
 have a:¬ fn.name = "runtime.NumGoroutine" := by simpa using hn.1
 have g:¬ fn.body=none:=fun e=>by rw [e] at hn;simp at hn
 simp [gn,Deferred.ofValue,invoke,callFunc,hf,a,g]
theorem Run.callV {f:FuncId} {fn:Func} {cap args:nA} {Post:Value->List Item->ai->Prop}
  (hf:P.funcs[f]?=some fn) (hn:(fn.name == "runtime.NumGoroutine" || fn.body.isNone)=false) (h:Inv w0 X (A++I) S w) (hc:Tri P f (args++cap) I S Post)
  (hk:∀ v I' S' w',Post v I' S'->Sle S S'->Inv w0 X (A++I') S' w'->K v w'):Run P (gn (fv f cap) args) w K:=by
 unfold Run;rw [Iy hf hn];refine (hc w (h.sub (fj A I)).begin).mono ?_;rintro e w' ⟨v,I',S',rfl,g,a,i⟩;exact hk v I' S' w' i a.1 (Inv.step h g a.2)
end
structure Cb (P:Program) (f:FuncId) (fn:Func) {α σ:Type} (cap:List Value) (S:ai) (It:σ->List Item) (ok:σ->Prop) (step:σ->α->Bool × σ) (R:Value->α->Prop) (xs:List α):Prop where
 hf:P.funcs[f]?=some fn
 hn:(fn.name == "runtime.NumGoroutine" || fn.body.isNone)=false
 keep:∀ st x,x∈xs->ok st->(step st x).1=false->ok (step st x).2
 call:∀ st x v,x∈xs->ok st->R v x->Tri P f (v::cap) (It st) S fun r I' S'=>r=.bool (step st x).1/\I'=It (step st x).2/\S'=S
theorem Cb.pure {P:Program} {f:FuncId} {fn:Func} {α:Type} {cap:nA} {S:ai} {p:α->Bool} {R:Value->α->Prop} {xs:List α} (L:List Item) (hf:P.funcs[f]?=some fn) (hn:(fn.name == "runtime.NumGoroutine" || fn.body.isNone)=false)
  (h:∀ x v,x∈xs->R v x->Tri P f (v::cap) L S fun r I' S'=>r=.bool (p x)/\I'=L/\S'=S):Cb P f fn cap S (fun _:Unit=>L) (fun _=>True) (fun _ x=>(p x,())) R xs:=
 ⟨hf,hn,fun _ _ _ _ _=>trivial,fun _ x v a _ hR=>h x v a hR⟩

theorem xi {σ:Type} {f:FuncId} {fn:Func} {cap:nA} {S:ai} {It:σ->List Item} {ok:σ->Prop} {step:σ->T->Bool × σ} {xs:List T} {v:Value}
  (l:Cb Tryz.prog f fn cap S It ok step (fun v x=>∃ cs,v=.agg cs.toArray/\RdT S cs x) xs) (h:RdSl S 4 (RdT S) v xs) {st:σ} (B:ok st) :
  nB nb [v,fv f cap] (It st) S fun r I' S'=>r=ee (dZ step st xs 0).1/\I'=It (dZ step st xs 0).2/\S'=S:=by
 intro w o;have q:=h.le;simp only [maxLen] at q;refine gC.2 ?_;dsimp only[gC,bv];refine aO h ao ?_;refine ⟨fun i w'=>∃ (k:Nat) (g:σ),k<=xs.length/\i=ee k/\ok g/\dZ step g (xs.drop k) k=dZ step st xs 0/\Inv w (cg (It st)) (It g) S w',fun i _=>xs.length - (intOf i).toNat,
  ⟨0,st,aT _,rfl,B,rfl,o⟩,?_⟩
 intro J _ _ _ _ _ _ _ _ _ _ _ _ w';rintro ⟨k,g,hk,rfl,p,j,o⟩;refine cd ?_;refine aJ (fun C=>?_) (fun C=>?_)
 ·have m:k<xs.length:=by omega
  have G:=cO m;have a:dZ step g (xs.drop k) k=if (step g xs[k]).1 then ((k:Int),(step g xs[k]).2) else dZ step (step g xs[k]).2 (xs.drop (k+1)) (k+1):=by
   rw [ef m,dZ]
  refine dj o h ao af m (fun _ _=>RdT.length) fun cs D=>?_;refine Run.callV (A:=[]) (args:=[.agg cs.toArray]) l.hf l.hn (by simpa using o) (l.call g _ _ G p ⟨cs,rfl,D⟩) fun v' I' S' w'=>?_;rintro ⟨rfl,rfl,rfl⟩ _ o;refine aL (fun t=>?_) (fun t=>?_)
  ·rw [ag t] at a;refine ⟨_,_,_,rfl,by simpa using o,Ext.refl _ _ _,?_,?_,rfl⟩
   ·rw [<- j,a]
   ·rw [<- j,a]
  ·refine bL (by omega) ?_;rw [t] at a;refine ⟨⟨k+1,_,m,rfl,l.keep g _ G p t,?_,by simpa using o⟩,by simp [intOf];omega⟩;rw [<- j,a];rfl
 ·have:k=xs.length:=by omega
  subst this;rw [eL,dZ] at j;exact ⟨_,_,_,rfl,o,Ext.refl _ _ _,by rw [<- j],by rw [<- j],rfl⟩
theorem lD {σ:Type} {f:FuncId} {fn:Func} {cap:nA} {S:ai} {It:σ->List Item} {ok:σ->Prop} {step:σ->T->Bool × σ} {xs:List T} {v:Value}
  (a:Cb Tryz.prog f fn cap S It ok step (fun v x=>∃ cs,v=.agg cs.toArray/\RdT S cs x) xs) (h:RdSl S 4 (RdT S) v xs) {st:σ} (g:ok st) :
  nB kD [v,fv f cap] (It st) S fun r I' S'=>r=.bool (xZ step st xs).1/\I'=It (xZ step st xs).2/\S'=S:=by
 intro w i;refine fU.2 ?_;dsimp only[fU,bv];refine Run.call (A:=[]) ma l7 (by simpa using i) (xi a h g) fun v' I' S' w'=>?_;rintro ⟨rfl,rfl,rfl⟩ _ i;refine iK ?_;have j:=qc step xs st 0;exact ⟨_,_,_,rfl,by simpa using i,Ext.refl _ _ _,by rw [j.1],by rw [j.2],rfl⟩
end
section
open Go Go.RowKit

theorem hO (n low a:Int) (S:ai):ru vX [ee n,ee low,ee a] S (.bool (decide (low<=n) && decide (n<=a))):=by
 intro w g;refine Cr.2 ?_;dsimp only[Cr,eX];refine jK ?_;refine lw (fun h=>?_) (fun h=>done g (by rw [h];rfl));refine jK ?_;exact je h (done g (by rw [h];rfl))
theorem rH (s:ByteArray) (p:s.size<=maxLen) (S:ai):ru Hj [.string s] S (.bool (mf s)):=by
 intro w l;simp only [maxLen] at p;refine rZ.2 ?_;dsimp only[rZ,bd];refine mV bm ?_;refine ⟨fun i w'=>∃ k:Nat,k<=s.size/\i=ee k/\(s.data.toList.drop k).all sK=sN s/\Inv w [] [] S w',fun i _=>s.size - (intOf i).toNat,⟨0,aT _,rfl,rfl,l⟩,?_⟩;intro r _ _ _ _ _ _ _ _ _ _ _ _ _ _ _ w';rintro ⟨k,hk,rfl,g,l⟩;refine cd ?_;refine aJ (fun m=>?_) (fun m=>?_)
 ·have j:k<s.size:=by omega
  have a:=zF sK s.data.toList k (by rw [pT];exact j);rw [N6 s k j] at a;refine ⟨fun t w'=>t=.bool (!sK s[k])/\Inv w [] [] S w',?_,?_⟩
  ·refine mX bm j ?_;refine cd ?_;refine Jg (fun h=>⟨?_,l⟩) (fun h=>?_)
   ·have h:=of_decide_eq_true h;rw [sK,aM (show ¬ 97<=s[k].toNat by omega)];rfl
   ·refine mX bm j ?_;refine fL ?_;refine BQ h ⟨?_,l⟩;have h:=of_decide_eq_false h;rw [sK,aD (show 97<=s[k].toNat by omega),fk];by_cases o:s[k].toNat<=122
    ·rw [aD o,aM (by omega)];rfl
    ·rw [aM o,aD (by omega)];rfl
  intro t _ _ _ _ _ _ _ _ _ w';rintro ⟨rfl,l⟩;refine aL (fun h=>done l ?_) (fun h=>?_)
  ·simp at h;rw [mf,<- g,a,h];rfl
  ·simp at h;refine bL (by omega) ?_;refine ⟨⟨k+1,j,rfl,by rw [<- g,a,h];rfl,l⟩,by simp [intOf];omega⟩
 ·have:k=s.size:=by omega
  subst this;have q:sN s=true:=by rw [<- g,<- pT,eL];rfl
  refine mV bm ?_;refine Run.callPure iE iR l (hO _ _ _ S) fun w' l=>done l ?_;rw [mf,q,fk]
  congr 1
  rw [sD];simp;omega
theorem Ha (S:ai):nB NV [] [] S (HH S):=by
 intro w g;refine xH.2 ?_;dsimp only[xH,nR];refine oK (v:=fun b=>.slice (some ⟨b,0,none⟩) 15 15) (o:=.cells AW fx) g (by kernel_rfl) fun b w' g=>?_;have a:w.heap.size<=b:=by
  rcases g.new b (by simp [cg,Item.foot]) with h|h
  ·simp [cg] at h
  ·exact h
 obtain ⟨j,i⟩:=Inv.publishLast (L:=[]) g;exact ⟨_,_,_,rfl,j,Gm a i,rfl,i,LY (by simp [oJ];rfl)⟩
theorem vO (s:ByteArray) {xs:List ByteArray} {S:ai} {v:Value} (h:RdSl S 1 xK v xs) :
  ru AY [v,.string s] S (ee (dZ (σ:=Unit) (fun _ x=>(decide (x=s),())) () xs 0).1):=by
 intro w j;have l:=h.le;simp only [maxLen] at l;refine ou.2 ?_;dsimp only[ou,bv];refine aO h dM ?_;refine ⟨fun i w'=>∃ k:Nat,k<=xs.length/\i=ee k/\dZ (σ:=Unit) (fun _ x=>(decide (x=s),())) () (xs.drop k) k=dZ (σ:=Unit) (fun _ x=>(decide (x=s),())) () xs 0/\Inv w [] [] S w',
  fun i _=>xs.length - (intOf i).toNat,⟨0,aT _,rfl,rfl,j⟩,?_⟩
 intro q _ _ _ _ _ _ _ _ _ _ _ _ w';rintro ⟨k,hk,rfl,a,j⟩;refine cd ?_;refine aJ (fun m=>?_) (fun m=>?_)
 ·have g:k<xs.length:=by omega
  rw [ef g,dZ] at a;refine jq j h dM aV g (fun cs o=>o) ?_;refine bT ?_;refine aJ (fun p=>done j ?_) (fun p=>?_)
  ·rw [<- a,ag (by simpa using p.symm)]
  ·refine bL (by omega) ?_;rw [ae (by simpa using fun e=>p e.symm)] at a;exact ⟨⟨k+1,g,rfl,a,j⟩,by simp [intOf];omega⟩
 ·have:k=xs.length:=by omega
  subst this;rw [eL,dZ] at a;exact done j (by rw [<- a])
theorem rJ (s:ByteArray) {xs:List ByteArray} {S:ai} {v:Value} (h:RdSl S 1 xK v xs) :
  ru ur [v,.string s] S (.bool (xs.any fun x=>decide (x=s))):=by
 intro w a;refine lH.2 ?_;dsimp only[lH,bv];refine Run.callPure xN yt a (vO s h) fun w' a=>?_;refine iK (done a ?_);rw [(qc _ xs () 0).1,ud]
theorem Ac (s:ByteArray) (i:s.size<=maxLen) (S:ai):ru Hn [.string s] S (.bool (fw s)):=by
 intro w a;refine rT.2 ?_;dsimp only[rT,bd];refine Run.callPure sW tc a (rH s i S) fun w' a=>?_;refine Jg (fun h=>done a ?_) (fun h=>?_)
 ·rw [fw,h];rfl
 ·refine Run.call0 Ld JH a (Ha S) fun v' I' S' w'=>?_;rintro ⟨rfl,_,j⟩ g a;refine Run.callPure tm td a (rJ s j) fun w' a=>?_;refine BQ h (Ci a g ?_);rw [fw,h];rfl

abbrev lX (b:Nat) (c:Int):Item:=ei b #[ee c] bV
abbrev ya (bc:Nat) (S:ai) (r:Bool × Int):Value->List Item->ai->Prop:=fun v I' S'=>v=.bool r.1/\I'=[lX bc r.2]/\S'=S
theorem N3:∀ (t:T) (a c:Int),c<=120->(gN t a c).1=true->c<(gN t a c).2/\(gN t a c).2<=120:=by
 intro t a c hc h;have:=FL t a c;rw [this.2 h];have g:=this.1;rw [h] at g;have i:=g.symm;simp at i;have:=dw t;omega
theorem HX (a:Int):∀ (ks:List T) (c:Int),xZ (fun c t=>(!(gN t a c).1,(gN t a c).2)) c ks=(!(ng ks a c).1,(ng ks a c).2)
 | [],c=>by simp [xZ,ng]
 | t::ts,c=>by
  by_cases h:(gN t a c).1=true
  ·simp [xZ,ng,h,HX a ts]
  ·simp [xZ,ng,h]

theorem OY:∀ (t:T) (S:ai) (cs:nA) (a c:Int) (i:Nat),RdT S cs t->0<=a->a<=31->0<=c->c<=120->
  nB U6 [.agg cs.toArray,ee a,hV i] [lX i c] S (ya i S (gN t a c)):=by
 refine T.ind fun k n s ks ih S cs a c i h a3 a4 a5 a6=>?_;intro w g;obtain ⟨kv,rfl,_,_,hs,C⟩:=RdT.iff.1 h;simp only [T.name,T.kids,T.kind,T.n] at hs C ⊢;have m:∀ {L:List Item} {w':World} {v:Value} (r:Bool × Int),Inv w (cg [lX i c]) (lX i r.2::L) S w'->v=.bool r.1->r=gN (.mk k n s ks) a c->
   ∃ v' I' S',Ending.returned v=.returned v'/\Inv w (cg [lX i c]) I' S' w'/\Ext w.heap.size (cg [lX i c]) S S'/\ya i S (gN (.mk k n s ks) a c) v' I' S':=by
  intro L w' v r h1 o p;subst p;exact ⟨_,_,_,rfl,h1.pick [true],Ext.refl _ _ _,o,rfl,rfl⟩
 refine IC.2 ?_;dsimp only[IC,eX];refine bH g fun b3 w' g=>?_;refine bH g fun O w' g=>?_;refine bH g fun U w' g=>?_;refine aG g 3 Ky rfl rfl ?_;refine bh ?_;refine aG g 0 au rfl rfl ?_;refine bL (by omega) ?_;refine bh ?_;refine eV g 0 (n:=1) rfl (by rw [au];rfl) rfl (D1 rfl) (by simp [Value.cells];rfl) fun w' g=>?_;refine ⟨fun t w'=>t=.bool (decide (120<c+1 ∨ 30<a))/\Inv w (cg [lX i c]) [lX i (c+1),ei b3 #[ee k,ee n,.string s,kv] ac,ei O #[ee a] bV,ei U #[hV i] qH] S w',?_,?_⟩
 ·refine aG g 3 Ky rfl rfl ?_;refine bh ?_;refine aG g 0 au rfl rfl ?_;refine fL ?_;refine Jg (fun h=>⟨?_,g⟩) (fun h=>?_)
  ·have h:=of_decide_eq_true h;rw [aD (show 120<c+1 ∨ 30<a from .inl h)]
  ·refine aG g 2 au rfl rfl ?_;refine fL ?_;refine BQ h ⟨?_,g⟩;have h:=of_decide_eq_false h
   congr 1
   rw [sD];simp;omega
 intro t _ _ _ _ _ _ _ w';rintro ⟨rfl,g⟩;refine aJ (fun Z=>?_) (fun Z=>?_)
 ·exact m (false,c+1) g rfl (by rw [gN,ag Z])
 have D:∀ r,(if k=1 ∨ k=2 then (fR (.mk k n s ks),c+1) else if k=3 then (if fR (.mk k n s ks) then ng ks (a+1) (c+1) else (false,c+1)) else (false,c+1))=r->r=gN (.mk k n s ks) a c:=by
  intro r hr;rw [gN,ae Z,hr]
 refine ah g 1 rfl aW au rfl ?_;refine a9 ?_;refine aJ (fun hk=>?_) (fun hk=>?_)
 ·have G:fR (.mk k n s ks)=(decide (0<=n) && (decide (n<=25) && (decide (s=emptyB) && decide (ks.length=0)))):=by
   rw [fR];exact ag hk
  have l:∀ {w':World} {b:Bool},Inv w (cg [lX i c]) [lX i (c+1),ei b3 #[ee k,ee n,.string s,kv] ac,ei O #[ee a] bV,ei U #[hV i] qH] S w'->
    b=fR (.mk k n s ks)->∃ v' I' S',Ending.returned (.bool b)=.returned v'/\Inv w (cg [lX i c]) I' S' w'/\Ext w.heap.size (cg [lX i c]) S S'/\ya i S (gN (.mk k n s ks) a c) v' I' S':=
   fun g Z=>m (_,c+1) g (by rw [Z]) (D _ (ag (.inl hk)))
  refine ah g 1 rfl aR au rfl ?_;refine Run.callPure iE iR g (hO _ _ _ S) fun w' g=>?_;refine lw (fun o=>?_) (fun o=>?_)
  ·have j:=o;rw [bQ] at j;refine ah g 1 rfl bu aV rfl ?_;refine bT ?_;refine je o ?_;refine lw (fun p=>?_) (fun p=>l g ?_)
   ·refine ah g 1 rfl az aw rfl ?_;refine aO C ao ?_;refine a9 ?_;refine je p (l g ?_);rw [G,j.1,j.2,show decide (s=emptyB)=true from p];simp
   ·rw [G,j.1,j.2,show decide (s=emptyB)=false from p];rfl
  ·refine qf (l g ?_);rw [G,<- Bool.and_assoc,o];rfl
 refine a9 ?_;refine aJ (fun q=>?_) (fun q=>?_)
 ·have G:fR (.mk k n s ks)=(decide (-999<=n) && (decide (n<=999) && (decide (s=emptyB) && decide (ks.length=0)))):=by
   rw [fR];exact (ae hk).trans (ag q)
  have l:∀ {w':World} {b:Bool},Inv w (cg [lX i c]) [lX i (c+1),ei b3 #[ee k,ee n,.string s,kv] ac,ei O #[ee a] bV,ei U #[hV i] qH] S w'->
    b=fR (.mk k n s ks)->∃ v' I' S',Ending.returned (.bool b)=.returned v'/\Inv w (cg [lX i c]) I' S' w'/\Ext w.heap.size (cg [lX i c]) S S'/\ya i S (gN (.mk k n s ks) a c) v' I' S':=
   fun g Z=>m (_,c+1) g (by rw [Z]) (D _ (ag (.inr q)))
  refine ah g 1 rfl aR au rfl ?_;refine Run.callPure iE iR g (hO _ _ _ S) fun w' g=>?_;refine lw (fun o=>?_) (fun o=>?_)
  ·have j:=o;rw [bQ] at j;refine ah g 1 rfl bu aV rfl ?_;refine bT ?_;refine je o ?_;refine lw (fun p=>?_) (fun p=>l g ?_)
   ·refine ah g 1 rfl az aw rfl ?_;refine aO C ao ?_;refine a9 ?_;refine je p (l g ?_);rw [G,j.1,j.2,show decide (s=emptyB)=true from p];simp
   ·rw [G,j.1,j.2,show decide (s=emptyB)=false from p];rfl
  ·refine qf (l g ?_);rw [G,<- Bool.and_assoc,o];rfl
 refine a9 ?_;have J:¬ (k=1 ∨ k=2):=fun h=>h.elim hk q;refine aJ (fun B=>?_) (fun B=>?_)
 ·have G:fR (.mk k n s ks)=(decide (n=0) && (fw s && decide (ks.length<=4))):=by
   rw [fR];exact (ae hk).trans ((ae q).trans (ag B))
  refine ⟨fun t w'=>t=.bool (!fR (.mk k n s ks))/\Inv w (cg [lX i c]) [lX i (c+1),ei b3 #[ee k,ee n,.string s,kv] ac,ei O #[ee a] bV,ei U #[hV i] qH] S w',?_,?_⟩
  ·refine ah g 1 rfl aR au rfl ?_;refine jN ?_;refine Jg (fun h1=>?_) (fun h1=>?_)
   ·have Y:decide (n=0)=false:=by simpa using h1
    refine Y7 ⟨?_,g⟩;rw [G,Y];rfl
   ·have Y:decide (n=0)=true:=by simpa using h1
    refine ah g 1 rfl bu aV rfl ?_;refine Run.callPure FM DR g (Ac s hs S) fun w' g=>?_;refine c8 ?_;refine BQ h1 ?_;refine Jg (fun o=>⟨?_,g⟩) (fun o=>?_)
    ·have j:fw s=false:=by simpa using o
     rw [G,Y,j];rfl
    ·have j:fw s=true:=by simpa using o
     refine ah g 1 rfl az aw rfl ?_;refine aO C ao ?_;refine fL ?_;refine BQ o ⟨?_,g⟩;rw [G,Y,j,fk,fk]
     congr 1
     rw [sD];simp;omega
  intro t _ _ _ _ _ _ _ _ _ _ _ _ _ _ w';rintro ⟨rfl,g⟩;refine aL (fun a0=>?_) (fun a0=>?_)
  ·have N:fR (.mk k n s ks)=false:=by simpa using a0
   exact m (false,c+1) g rfl (D _ (by rw [ae J,ag B,N];rfl))
  ·have N:fR (.mk k n s ks)=true:=by simpa using a0
   refine ah g 1 rfl az aw rfl ?_;refine vN ?_;have a2:Cb Tryz.prog Qn Tryz.f139 [hV O,hV U] S
     (fun c:Int=>[lX i c,ei O #[ee a] bV,ei U #[hV i] qH]) (fun c=>0<=c/\c<=120)
     (fun c t=>(!(gN t (a+1) c).1,(gN t (a+1) c).2)) (fun v x=>∃ cs,v=.agg cs.toArray/\RdT S cs x) ks:=by
    refine ⟨Ns,Mh,fun st x _ V hf=>?_,fun st x v hx V=>?_⟩
    ·have:=N3 x (a+1) st V.2 (by simpa using hf);omega
    ·rintro ⟨cs,rfl,a1⟩ w1 g;have hl:=a1.length;refine B0.2 ?_;dsimp only[B0,eX];refine bH g fun b w' g=>?_;refine aq g 3 af rfl (by simpa [Value.cells] using hl) ?_;refine aG g 1 au rfl rfl ?_;refine bL (by omega) ?_;refine aG g 2 Ky rfl rfl ?_;have g:=g.perm (M:=[ei O #[ee a] bV,ei U #[hV i] qH,ei b (Value.agg cs.toArray).cells ac]++[lX i st])
      (bD (l₁:=[_,_,_]) (l₂:=[lX i st]))
     refine Run.call HT Ik g (ih x hx S cs (a+1) st i a1 (by omega) (by omega) V.1 V.2) fun v' I' S' w'=>?_;rintro ⟨rfl,rfl,rfl⟩ _ g;refine c8 ?_;have g:=(g.perm (M:=[lX i (gN x (a+1) st).2]++[ei O #[ee a] bV,ei U #[hV i] qH,ei b (Value.agg cs.toArray).cells ac])
      bD).pick [true,true,true,false]
     exact ⟨_,_,_,rfl,g,Ext.refl _ _ _,rfl,rfl,rfl⟩
   have g:=g.perm (M:=[ei b3 #[ee k,ee n,.string s,kv] ac]++[lX i (c+1),ei O #[ee a] bV,ei U #[hV i] qH]) (List.Perm.swap _ _ _);refine Run.call gX gY g (lD a2 C ⟨by omega,by omega⟩) fun v' I' S' w'=>?_;rintro ⟨rfl,rfl,rfl⟩ _ g;refine c8 ?_;rw [HX] at g ⊢;have g:=g.perm (M:=[lX i (ng ks (a+1) (c+1)).2,ei b3 #[ee k,ee n,.string s,kv] ac,ei O #[ee a] bV,ei U #[hV i] qH]) (List.Perm.swap _ _ _);refine m (ng ks (a+1) (c+1)) g (by simp) (D _ (by rw [ae J,ag B,N];rfl))
 ·exact m (false,c+1) g rfl (D _ (by rw [ae J,ae B]))

theorem oQ {t:T} {S:ai} {cs:nA} (h:RdT S cs t):ru GX [.agg cs.toArray] S (.bool (bY t)):=by
 intro w a;have i:=h.length;refine r7.2 ?_;dsimp only[r7,bd];refine bH a fun j w' a=>?_;refine aE a AN fun g w' a=>?_;refine eV a 1 (n:=1) rfl (by rw [au];rfl) rfl (D1 rfl) (by simp [Value.cells];rfl) fun w' a=>?_;refine aq a 0 af rfl (by simpa [Value.cells] using i) ?_;refine Run.call (A:=[_]) (I:=[lX g 0]) HT Ik a (OY t S cs 1 0 g h (by omega) (by omega) (by omega) (by omega)) fun v' I' S' w'=>?_;rintro ⟨rfl,rfl,rfl⟩ _ a;exact done a (by rw [Pw])
end
section
open Go Go.RowKit

def GM:List ByteArray:=[⟨#[61]⟩,⟨#[92,61]⟩,⟨#[61,61]⟩,⟨#[60]⟩,⟨#[62]⟩,⟨#[61,60]⟩,⟨#[62,61]⟩,⟨#[61,58,61]⟩,⟨#[105,115]⟩]
def vB:List ByteArray:=[⟨#[116,114,117,101]⟩,⟨#[102,97,105,108]⟩]
def FW:List ByteArray:=[⟨#[118,97,114]⟩,⟨#[110,111,110,118,97,114]⟩,⟨#[97,116,111,109]⟩,⟨#[105,110,116]⟩]
def OZ:List ByteArray:=[⟨#[43]⟩,⟨#[45]⟩]
def Eo:List ByteArray:=[⟨#[42]⟩,⟨#[47,47]⟩,⟨#[109,111,100]⟩]
def ib (s:ByteArray) (l:List ByteArray):Bool:=l.any fun x=>decide (s=x)
def gJ (s:ByteArray) (n:Int):Bool:=
 if ib s GM=true then decide (n=2)
 else if ib s vB=true then decide (n=0)
 else if ib s FW=true then decide (n=1)
 else if s=⟨#[97,114,103]⟩ then decide (n=3)
 else false
def dA (s:ByteArray):Int:=if ib s GM=true then 3 else if ib s OZ=true then 2 else if ib s Eo=true then 1 else 0
def rM (t:T):Bool:=decide (t.kind=3) && (decide (t.name=⟨#[33]⟩) && decide (t.kids.length=0))
def U0 (t:T):Bool:=decide (t.kind=3) && decide (t.kids.length=0)
def gi (t:T):Bool:=decide (t.kind=3) && gJ t.name t.kids.length
def hH (t:T):Bool:=decide (t.kind=3) && (mf t.name && (!gJ t.name t.kids.length && decide (dA t.name=0)))
def fa (t:T):Bool:=bY t && (rM t || (hH t || gi t))
def aZ (c:C):Bool:=decide (c.body.length<=6) && (c.body.all fa && (bY c.head && hH c.head))
def Lk (l:List T):Bool:=decide (l.length<=6) && l.all fa
theorem Sh (s:ByteArray):(!decide (0<dA s))=decide (dA s=0):=by
 unfold dA;split
 ·rfl
 ·split
  ·rfl
  ·split <;> rfl

theorem kO (s:ByteArray) (n:Int) (S:ai):ru GU [.string s,ee n] S (.bool (gJ s n)):=by
 intro w i;refine si.2 ?_;dsimp only[si,bv];obtain ⟨q,a⟩:∃ q,ib s GM=q:=⟨_,rfl⟩
 have g:=a;refine ⟨fun t w'=>t=.bool q/\Inv w [] [] S w',?_,?_⟩
 ·unfold ib GM at a
  iterate 8
   refine bT ?_;refine aL (fun h=>⟨by rw [gF,h] at a;rw [h,<- a];rfl,i⟩) (fun h=>?_);rw [gF,h,jb] at a
  refine bT ⟨?_,i⟩;rw [<- a];simp
 intro t _ _ _ _ _ _ _ _ _ w';rintro ⟨rfl,i⟩;refine aL (fun h=>?_) (fun h=>?_)
 ·exact a9 (done i (by rw [gJ,ag (g.trans h)]))
 have j:gJ s n=if ib s vB=true then decide (n=0) else if ib s FW=true then decide (n=1) else if s=⟨#[97,114,103]⟩ then decide (n=3) else false:=by
  rw [gJ,ae (by rw [g,h];decide)]
 clear a g h;obtain ⟨q,a⟩:∃ q,ib s vB=q:=⟨_,rfl⟩
 have g:=a;refine ⟨fun t w'=>t=.bool q/\Inv w [] [] S w',?_,?_⟩
 ·unfold ib vB at a;refine bT ?_;refine aL (fun h=>⟨by rw [gF,h] at a;rw [h,<- a];rfl,i⟩) (fun h=>?_);rw [gF,h,jb] at a;refine bT ⟨?_,i⟩;rw [<- a];simp
 intro _ t _ w';rintro ⟨rfl,i⟩;refine aL (fun h=>?_) (fun h=>?_)
 ·exact a9 (done i (by rw [j,ag (g.trans h)]))
 rw [ae (by rw [g,h];decide)] at j;clear a g h;obtain ⟨q,a⟩:∃ q,ib s FW=q:=⟨_,rfl⟩
 have g:=a;refine ⟨fun t w'=>t=.bool q/\Inv w [] [] S w',?_,?_⟩
 ·unfold ib FW at a
  iterate 3
   refine bT ?_;refine aL (fun h=>⟨by rw [gF,h] at a;rw [h,<- a];rfl,i⟩) (fun h=>?_);rw [gF,h,jb] at a
  refine bT ⟨?_,i⟩;rw [<- a];simp
 intro _ _ _ t _ w';rintro ⟨rfl,i⟩;refine aL (fun h=>?_) (fun h=>?_)
 ·exact a9 (done i (by rw [j,ag (g.trans h)]))
 rw [ae (by rw [g,h];decide)] at j;refine bT ?_;refine aJ (fun h=>?_) (fun h=>?_)
 ·exact a9 (done i (by rw [j,ag h]))
 ·exact done i (by rw [j,ae h])
theorem z5 (s:ByteArray) (n:Int) (S:ai):ru G8 [.string s,ee n] S (.bool (gJ s n)):=by
 intro w i;refine tx.2 ?_;dsimp only[tx,bv];obtain ⟨q,a⟩:∃ q,ib s GM=q:=⟨_,rfl⟩
 have g:=a;refine ⟨fun t w'=>t=.bool q/\Inv w [] [] S w',?_,?_⟩
 ·unfold ib GM at a
  iterate 8
   refine bT ?_;refine aL (fun h=>⟨by rw [gF,h] at a;rw [h,<- a];rfl,i⟩) (fun h=>?_);rw [gF,h,jb] at a
  refine bT ⟨?_,i⟩;rw [<- a];simp
 intro t _ _ _ _ _ _ _ _ _ w';rintro ⟨rfl,i⟩;refine aL (fun h=>?_) (fun h=>?_)
 ·exact a9 (done i (by rw [gJ,ag (g.trans h)]))
 have j:gJ s n=if ib s vB=true then decide (n=0) else if ib s FW=true then decide (n=1) else if s=⟨#[97,114,103]⟩ then decide (n=3) else false:=by
  rw [gJ,ae (by rw [g,h];decide)]
 clear a g h;obtain ⟨q,a⟩:∃ q,ib s vB=q:=⟨_,rfl⟩
 have g:=a;refine ⟨fun t w'=>t=.bool q/\Inv w [] [] S w',?_,?_⟩
 ·unfold ib vB at a;refine bT ?_;refine aL (fun h=>⟨by rw [gF,h] at a;rw [h,<- a];rfl,i⟩) (fun h=>?_);rw [gF,h,jb] at a;refine bT ⟨?_,i⟩;rw [<- a];simp
 intro _ t _ w';rintro ⟨rfl,i⟩;refine aL (fun h=>?_) (fun h=>?_)
 ·exact a9 (done i (by rw [j,ag (g.trans h)]))
 rw [ae (by rw [g,h];decide)] at j;clear a g h;obtain ⟨q,a⟩:∃ q,ib s FW=q:=⟨_,rfl⟩
 have g:=a;refine ⟨fun t w'=>t=.bool q/\Inv w [] [] S w',?_,?_⟩
 ·unfold ib FW at a
  iterate 3
   refine bT ?_;refine aL (fun h=>⟨by rw [gF,h] at a;rw [h,<- a];rfl,i⟩) (fun h=>?_);rw [gF,h,jb] at a
  refine bT ⟨?_,i⟩;rw [<- a];simp
 intro _ _ _ t _ w';rintro ⟨rfl,i⟩;refine aL (fun h=>?_) (fun h=>?_)
 ·exact a9 (done i (by rw [j,ag (g.trans h)]))
 rw [ae (by rw [g,h];decide)] at j;refine bT ?_;refine aJ (fun h=>?_) (fun h=>?_)
 ·exact a9 (done i (by rw [j,ag h]))
 ·exact done i (by rw [j,ae h])

theorem fQ (s:ByteArray) (S:ai):ru Ow [.string s] S (ee (dA s)):=by
 intro w i;refine wY.2 ?_;dsimp only[wY,bd];obtain ⟨q,a⟩:∃ q,ib s GM=q:=⟨_,rfl⟩
 have g:=a;refine ⟨fun t w'=>t=.bool q/\Inv w [] [] S w',?_,?_⟩
 ·unfold ib GM at a
  iterate 8
   refine bT ?_;refine aL (fun h=>⟨by rw [gF,h] at a;rw [h,<- a];rfl,i⟩) (fun h=>?_);rw [gF,h,jb] at a
  refine bT ⟨?_,i⟩;rw [<- a];simp
 intro _ _ _ _ _ _ _ _ t _ w';rintro ⟨rfl,i⟩;refine aL (fun h=>?_) (fun h=>?_)
 ·exact done i (by rw [show dA s=3 from ag (g.trans h)] <;> rfl)
 have j:dA s=if ib s OZ=true then 2 else if ib s Eo=true then 1 else 0:=by
  rw [dA,ae (by rw [g,h];decide)]
 clear a g h;obtain ⟨q,a⟩:∃ q,ib s OZ=q:=⟨_,rfl⟩
 have g:=a;refine ⟨fun t w'=>t=.bool q/\Inv w [] [] S w',?_,?_⟩
 ·unfold ib OZ at a;refine bT ?_;refine aL (fun h=>⟨by rw [gF,h] at a;rw [h,<- a];rfl,i⟩) (fun h=>?_);rw [gF,h,jb] at a;refine bT ⟨?_,i⟩;rw [<- a];simp
 intro _ t _ w';rintro ⟨rfl,i⟩;refine aL (fun h=>?_) (fun h=>?_)
 ·exact done i (by rw [show dA s=2 from j.trans (ag (g.trans h))] <;> rfl)
 rw [ae (by rw [g,h];decide)] at j;clear a g h;obtain ⟨q,a⟩:∃ q,ib s Eo=q:=⟨_,rfl⟩
 have g:=a;refine ⟨fun t w'=>t=.bool q/\Inv w [] [] S w',?_,?_⟩
 ·unfold ib Eo at a
  iterate 2
   refine bT ?_;refine aL (fun h=>⟨by rw [gF,h] at a;rw [h,<- a];rfl,i⟩) (fun h=>?_);rw [gF,h,jb] at a
  refine bT ⟨?_,i⟩;rw [<- a];simp
 intro _ _ t _ w';rintro ⟨rfl,i⟩;refine aL (fun h=>?_) (fun h=>?_)
 ·exact done i (by rw [show dA s=1 from j.trans (ag (g.trans h))] <;> rfl)
 ·exact done i (by rw [show dA s=0 from j.trans (ae (by rw [g,h];decide))] <;> rfl)
theorem Dg (s:ByteArray) (S:ai):ru Na [.string s] S (.tuple #[ee (dA s),.bool (decide (dA s=1) || decide (dA s=2))]):=by
 intro w i;refine yy.2 ?_;dsimp only[yy,bd];obtain ⟨q,a⟩:∃ q,ib s GM=q:=⟨_,rfl⟩
 have g:=a;refine ⟨fun t w'=>t=.bool q/\Inv w [] [] S w',?_,?_⟩
 ·unfold ib GM at a
  iterate 8
   refine bT ?_;refine aL (fun h=>⟨by rw [gF,h] at a;rw [h,<- a];rfl,i⟩) (fun h=>?_);rw [gF,h,jb] at a
  refine bT ⟨?_,i⟩;rw [<- a];simp
 intro _ _ _ _ _ _ _ _ t _ w';rintro ⟨rfl,i⟩;refine aL (fun h=>?_) (fun h=>?_)
 ·exact done i (by rw [show dA s=3 from ag (g.trans h)] <;> rfl)
 have j:dA s=if ib s OZ=true then 2 else if ib s Eo=true then 1 else 0:=by
  rw [dA,ae (by rw [g,h];decide)]
 clear a g h;obtain ⟨q,a⟩:∃ q,ib s OZ=q:=⟨_,rfl⟩
 have g:=a;refine ⟨fun t w'=>t=.bool q/\Inv w [] [] S w',?_,?_⟩
 ·unfold ib OZ at a;refine bT ?_;refine aL (fun h=>⟨by rw [gF,h] at a;rw [h,<- a];rfl,i⟩) (fun h=>?_);rw [gF,h,jb] at a;refine bT ⟨?_,i⟩;rw [<- a];simp
 intro _ t _ w';rintro ⟨rfl,i⟩;refine aL (fun h=>?_) (fun h=>?_)
 ·exact done i (by rw [show dA s=2 from j.trans (ag (g.trans h))] <;> rfl)
 rw [ae (by rw [g,h];decide)] at j;clear a g h;obtain ⟨q,a⟩:∃ q,ib s Eo=q:=⟨_,rfl⟩
 have g:=a;refine ⟨fun t w'=>t=.bool q/\Inv w [] [] S w',?_,?_⟩
 ·unfold ib Eo at a
  iterate 2
   refine bT ?_;refine aL (fun h=>⟨by rw [gF,h] at a;rw [h,<- a];rfl,i⟩) (fun h=>?_);rw [gF,h,jb] at a
  refine bT ⟨?_,i⟩;rw [<- a];simp
 intro _ _ t _ w';rintro ⟨rfl,i⟩;refine aL (fun h=>?_) (fun h=>?_)
 ·exact done i (by rw [show dA s=1 from j.trans (ag (g.trans h))] <;> rfl)
 ·exact done i (by rw [show dA s=0 from j.trans (ae (by rw [g,h];decide))] <;> rfl)

theorem Cz {t:T} {S:ai} {cs:nA} (h:RdT S cs t):ru Sa [.agg cs.toArray] S (.bool (rM t)):=by
 intro w a;obtain ⟨kv,rfl,_,_,i,g⟩:=RdT.iff.1 h;obtain ⟨k,n,s,ks⟩:=t;simp only [T.name,T.kids,T.kind,T.n] at i g ⊢;refine Fk.2 ?_;dsimp only[Fk,bd];refine bH a fun j w' a=>?_;refine ah a 0 rfl aW au rfl ?_;refine a9 ?_;rw [show rM (.mk k n s ks)=(decide (k=3) && (decide (s=⟨#[33]⟩) && decide (ks.length=0))) from rfl];cases l:decide (k=3)
 ·refine rpG ?_;exact done a rfl
 ·refine rpG ?_;refine ah a 0 rfl bu aV rfl ?_;refine bT ?_;cases m:decide (s=⟨#[33]⟩)
  ·refine rpG ?_;exact done a rfl
  ·refine rpG ?_;refine ah a 0 rfl az aw rfl ?_;refine aO g ao ?_;refine a9 ?_;refine rpG ?_;exact done a (by simp)

theorem uO {t:T} {S:ai} {cs:nA} (h:RdT S cs t):ru NH [.agg cs.toArray] S (.bool (hH t)):=by
 intro w a;obtain ⟨kv,rfl,_,_,i,g⟩:=RdT.iff.1 h;obtain ⟨k,n,s,ks⟩:=t;simp only [T.name,T.kids,T.kind,T.n] at i g ⊢;refine y6.2 ?_;dsimp only[y6,bd];refine bH a fun j w' a=>?_;refine ah a 0 rfl aW au rfl ?_;refine a9 ?_;rw [show hH (.mk k n s ks)=(decide (k=3) && (mf s && (!gJ s ks.length && decide (dA s=0)))) from rfl];cases l:decide (k=3)
 ·refine rpG ?_;exact done a rfl
 ·refine rpG ?_;refine ah a 0 rfl bu aV rfl ?_;refine Run.callPure Bj BM a (yx s i S) fun w' a=>?_;cases m:mf s
  ·refine rpG ?_;exact done a rfl
  ·refine rpG ?_;refine ah a 0 rfl bu aV rfl ?_;refine ah a 0 rfl az aw rfl ?_;refine aO g ao ?_;refine Run.callPure mZ nw a (kO s _ S) fun w' a=>?_;refine c8 ?_;cases o:gJ s ks.length
   ·refine rpG ?_;refine ah a 0 rfl bu aV rfl ?_;refine Run.callPure ia hZ a (fQ s S) fun w' a=>?_;refine a9 ?_;refine rpG ?_;exact done a rfl
   ·refine rpG ?_;exact done a rfl

theorem K4 {t:T} {S:ai} {cs:nA} (h:RdT S cs t):ru OP [.agg cs.toArray] S (.bool (rM t || (hH t || gi t))):=by
 intro w a;have i:=h;obtain ⟨kv,rfl,_,_,j,g⟩:=RdT.iff.1 h;obtain ⟨k,n,s,ks⟩:=t;simp only [T.name,T.kids,T.kind,T.n] at i j g ⊢;refine Cq.2 ?_;dsimp only[Cq,bd];refine bH a fun l w' a=>?_;refine aq a 0 af rfl rfl ?_;refine Run.callPure EU EQ a (Cz i) fun w' a=>?_;cases m:rM (.mk k n s ks)
 ·refine rpG ?_;refine aq a 0 af rfl rfl ?_;refine Run.callPure y9 wI a (uO i) fun w' a=>?_;cases o:hH (.mk k n s ks)
  ·refine rpG ?_;refine ah a 0 rfl aW au rfl ?_;refine a9 ?_;rw [show gi (.mk k n s ks)=(decide (k=3) && gJ s ks.length) from rfl];cases p:decide (k=3)
   ·refine rpG ?_;exact done a rfl
   ·refine rpG ?_;refine ah a 0 rfl bu aV rfl ?_;refine ah a 0 rfl az aw rfl ?_;refine aO g ao ?_;refine Run.callPure mZ nw a (kO s _ S) fun w' a=>?_;refine rpG ?_;exact done a rfl
  ·refine rpG ?_;exact done a rfl
 ·refine rpG ?_;exact done a rfl

theorem RD {t:T} (h:wT t<=1048576):bR t<=4611686018427387904:=by
 have:=wj t;omega
theorem Aq {t:T} {S:ai} {cs:nA} (h:RdT S cs t) (hc:wT t<=1048576):ru G6 [.agg cs.toArray] S (.bool (fa t)):=by
 intro w a;have g:=h.length;refine sr.2 ?_;dsimp only[sr,bd];refine bH a fun i w' a=>?_;refine aq a 0 af rfl (by simpa [Value.cells] using g) ?_;refine Run.callPure nG mN a (kV h (RD hc)) fun w' a=>?_;rw [fa];cases j:bY t
 ·refine rpG ?_;exact done a rfl
 ·refine rpG ?_;refine aq a 0 af rfl (by simpa [Value.cells] using g) ?_;refine Run.callPure LB ML a (K4 h) fun w' a=>?_;refine rpG ?_;exact done a rfl


theorem WT {ts:List T} {t:T} (h:t∈ts):wT t<=wL ts:=by
 induction ts with
 | nil=>simp at h
 | cons u us a=>
  rw [wL];rcases dK.1 h with rfl|h
  ·omega
  ·have:=a h;omega
theorem mS {c:C} {S:ai} {cs:nA} (h:RdC S cs c) (hc:wC c<=1048576):ru Dt [.agg cs.toArray] S (.bool (aZ c)):=by
 intro w a;obtain ⟨hd,ks,rfl,O,J⟩:=h;have B:=O;obtain ⟨kv,rfl,g1,g2,g3,g4⟩:=RdT.iff.1 O;have D:=J.le;simp only [maxLen] at D;unfold wC at hc;refine pK.2 ?_;dsimp only[pK,bd];refine bH a fun N w' a=>?_;refine ⟨fun i w'=>∃ k:Nat,k<=c.body.length/\k<=7/\i=ee k/\(∀ j (h:j<c.body.length),j<k->fa c.body[j]=true)/\Inv w [] [ei N #[ee c.head.kind,ee c.head.n,.string c.head.name,kv,ks] ad] S w',
  fun i _=>c.body.length - (intOf i).toNat,⟨0,aT _,by omega,rfl,fun j _ h=>by omega,a⟩,?_⟩
 intro t3 _ _ _ _ _ _ _ _ _ _ _ _ _ _ _ _ _ _ _ w';rintro ⟨k,hk,U,rfl,q,a⟩;refine ⟨fun t w'=>t=.bool (decide (k<c.body.length/\k<=6))/\Inv w [] [ei N #[ee c.head.kind,ee c.head.n,.string c.head.name,kv,ks] ad] S w',?_,?_⟩
 ·refine ah a 0 rfl bS aw rfl ?_;refine aO J ao ?_;refine cd ?_;by_cases l:(k:Int)<c.body.length
  ·rw [aD l];refine rpG ?_;refine jK ?_;refine rpG ?_;refine ⟨?_,a⟩
   congr 1
   rw [sD];simp;omega
  ·rw [aM l];refine rpG ?_;exact ⟨by rw [aM (by omega)],a⟩
 intro t _ _ _ _ _ _ _ _ w';rintro ⟨rfl,a⟩;refine aJ (fun l=>?_) (fun l=>?_)
 ·obtain ⟨o,a0⟩:=l;refine ah a 0 rfl bS aw rfl ?_;refine dj a J ao af o (fun _ _=>RdT.length) fun Y r=>?_;have a1:=WT (cO o);refine Run.callPure GE FY a (Aq r (by omega)) fun w' a=>?_;refine c8 ?_;refine aL (fun M=>done a ?_) (fun M=>?_)
  ·have p:fa c.body[k]=false:=by simpa using M
   have:c.body.all fa=false:=by
    rw [<- Tp,fF];intro g;rw [g _ (cO o)] at p;cases p
   rw [aZ,this];simp
  ·have p:fa c.body[k]=true:=by simpa using M
   refine bL (by omega) ?_;refine ⟨⟨k+1,o,by omega,rfl,fun j m Z=>?_,a⟩,by simp [intOf];omega⟩;by_cases e:j=k
   ·subst e;exact p
   ·exact q j m (by omega)
 ·refine ah a 0 rfl bS aw rfl ?_;refine aO J ao ?_;refine jK ?_;rw [aZ];by_cases G:c.body.length<=6
  ·have g:c.body.all fa=true:=by
    rw [fF];intro x V;obtain ⟨j,m,rfl⟩:=VT V;exact q j m (by omega)
   rw [aD (show (c.body.length:Int)<=6 by omega),aD G,g];refine rpG ?_;refine ax cV ?_;refine gd a 0 (kB c.head kv) af rfl rfl ?_ ?_
   ·intro j v m
    match j with
    | 0|1|2|3=>exact m
    | j+4=>simp at m
   refine Run.callPure nG mN a (kV B (RD (by omega))) fun w' a=>?_;cases hv:bY c.head
   ·refine rpG ?_;exact done a rfl
   ·refine rpG ?_;refine ax cV ?_;refine gd a 0 (kB c.head kv) af rfl rfl ?_ ?_
    ·intro j v m
     match j with
     | 0|1|2|3=>exact m
     | j+4=>simp at m
    refine Run.callPure y9 wI a (uO B) fun w' a=>?_;refine rpG ?_;exact done a rfl
  ·rw [aM (show ¬ (c.body.length:Int)<=6 by omega),aM G];refine rpG ?_;exact done a rfl

theorem OQ (s:ByteArray) (S:ai):ru UK [.string s] S (.bool (decide (0<dA s))):=by
 intro w a;refine In.2 ?_;dsimp only[In,bd];refine Run.callPure JA Kk a (Dg s S) fun w' a=>?_;refine aA rfl ?_;refine aA rfl ?_;refine fL ?_;exact done a rfl
theorem oB {t:T} {S:ai} {cs:nA} (h:RdT S cs t):ru LN [.agg cs.toArray] S (.bool (gi t)):=by
 intro w a;obtain ⟨kv,rfl,_,_,i,g⟩:=RdT.iff.1 h;obtain ⟨k,n,s,ks⟩:=t;simp only [T.name,T.kids,T.kind,T.n] at i g ⊢;refine yk.2 ?_;dsimp only[yk,bd];refine bH a fun j w' a=>?_;refine ah a 0 rfl aW au rfl ?_;refine a9 ?_;rw [show gi (.mk k n s ks)=(decide (k=3) && gJ s ks.length) from rfl];cases l:decide (k=3)
 ·refine rpG ?_;exact done a rfl
 ·refine rpG ?_;refine ah a 0 rfl bu aV rfl ?_;refine ah a 0 rfl az aw rfl ?_;refine aO g ao ?_;refine Run.callPure FK EH a (z5 s _ S) fun w' a=>?_;refine rpG ?_;exact done a rfl
theorem u9 {t:T} {S:ai} {cs:nA} (h:RdT S cs t):ru NF [.agg cs.toArray] S (.bool (hH t)):=by
 intro w a;have j:=h;obtain ⟨kv,rfl,_,_,i,g⟩:=RdT.iff.1 h;obtain ⟨k,n,s,ks⟩:=t;simp only [T.name,T.kids,T.kind,T.n] at j i g ⊢;refine xV.2 ?_;dsimp only[xV,bd];refine bH a fun o w' a=>?_;refine ah a 0 rfl aW au rfl ?_;refine a9 ?_;have l:gi (.mk k n s ks)=(decide (k=3) && gJ s ks.length):=rfl;rw [show hH (.mk k n s ks)=(decide (k=3) && (mf s && (!gJ s ks.length && decide (dA s=0)))) from rfl];cases m:decide (k=3)
 ·refine rpG ?_;exact done a rfl
 ·rw [m] at l;refine rpG ?_;refine ah a 0 rfl bu aV rfl ?_;refine Run.callPure sW tc a (rH s i S) fun w' a=>?_;cases p:mf s
  ·refine rpG ?_;exact done a rfl
  ·refine rpG ?_;refine ah a 0 rfl bu aV rfl ?_;refine Run.callPure R8 Tb a (OQ s S) fun w' a=>?_;refine c8 ?_;rw [Sh];cases q:decide (dA s=0)
   ·refine rpG ?_;exact done a (by simp)
   ·refine rpG ?_;refine aq a 0 af rfl rfl ?_;refine Run.callPure qo qD a (oB j) fun w' a=>?_;refine c8 ?_;refine rpG ?_;exact done a (by rw [l];simp)
theorem Kg {t:T} {S:ai} {cs:nA} (h:RdT S cs t):ru Po [.agg cs.toArray] S (.bool (U0 t)):=by
 intro w a;obtain ⟨kv,rfl,_,_,i,g⟩:=RdT.iff.1 h;obtain ⟨k,n,s,ks⟩:=t;simp only [T.name,T.kids,T.kind,T.n] at i g ⊢;refine Co.2 ?_;dsimp only[Co,bd];refine bH a fun j w' a=>?_;refine ah a 0 rfl aW au rfl ?_;refine a9 ?_;rw [show U0 (.mk k n s ks)=(decide (k=3) && decide (ks.length=0)) from rfl];cases l:decide (k=3)
 ·refine rpG ?_;exact done a rfl
 ·refine rpG ?_;refine ah a 0 rfl az aw rfl ?_;refine aO g ao ?_;refine a9 ?_;refine rpG ?_;exact done a (by simp)
theorem Cm {t:T} {S:ai} {cs:nA} (h:RdT S cs t):ru Tk [.agg cs.toArray] S (.bool (rM t)):=by
 intro w g;have j:=h;obtain ⟨kv,rfl,_,_,l,i⟩:=RdT.iff.1 h;obtain ⟨k,n,s,ks⟩:=t;simp only [T.name,T.kids,T.kind,T.n] at j l i ⊢;refine Gw.2 ?_;dsimp only[Gw,bd];refine bH g fun o w' g=>?_;refine aq g 0 af rfl rfl ?_;refine Run.callPure M0 MQ g (Kg j) fun w' g=>?_;rw [show rM (.mk k n s ks)=(decide (k=3) && (decide (s=⟨#[33]⟩) && decide (ks.length=0))) from rfl];cases a:U0 (.mk k n s ks)
 ·refine rpG ?_;refine done g ?_
  replace a:(decide (k=3) && decide (ks.length=0))=false:=a
  cases m:decide (k=3)
  ·rfl
  ·rw [m,fk] at a;rw [a,zR];rfl
 ·refine rpG ?_;refine ah g 0 rfl bu aV rfl ?_;refine bT ?_;refine rpG ?_;refine done g ?_
  replace a:(decide (k=3) && decide (ks.length=0))=true:=a
  rw [bQ] at a;rw [a.1,a.2];simp
theorem Ad {t:T} {S:ai} {cs:nA} (h:RdT S cs t):ru G7 [.agg cs.toArray] S (.bool (fa t)):=by
 intro w a;have g:=h.length;refine rR.2 ?_;dsimp only[rR,bd];refine bH a fun i w' a=>?_;refine aq a 0 af rfl (by simpa [Value.cells] using g) ?_;refine Run.callPure th s7 a (oQ h) fun w' a=>?_;rw [fa];cases j:bY t
 ·refine rpG ?_;exact done a rfl
 ·refine rpG ?_;refine aq a 0 af rfl (by simpa [Value.cells] using g) ?_;refine Run.callPure yo wJ a (u9 h) fun w' a=>?_;cases l:hH t
  ·refine rpG ?_;refine aq a 0 af rfl (by simpa [Value.cells] using g) ?_;refine Run.callPure qo qD a (oB h) fun w' a=>?_;cases m:gi t
   ·refine rpG ?_;refine aq a 0 af rfl (by simpa [Value.cells] using g) ?_;refine Run.callPure Gj FP a (Cm h) fun w' a=>?_;refine rpG ?_;exact done a (by simp)
   ·refine rpG ?_;exact done a (by simp)
  ·refine rpG ?_;exact done a (by simp)

theorem QO {α:Type} (p:α->Bool):∀ xs:List α,(!xs.any fun x=>!p x)=xs.all p
 | []=>rfl
 | x::xs=>by
  rw [gF,RE,<- QO p xs];cases p x <;> simp

theorem uw {x:T} {S:ai} {cs:nA} (h:RdT S cs x):ru pz [.agg cs.toArray] S (.bool (!fa x)):=by
 intro w a;have g:=h.length;refine nW.2 ?_;dsimp only[nW,bd];refine bH a fun i w' a=>?_;refine aq a 0 af rfl (by simpa [Value.cells] using g) ?_;refine Run.callPure FU Gf a (Ad h) fun w' a=>?_;refine c8 (done a rfl)
theorem zd {xs:List T} {S:ai} {v:Value} (h:RdSl S 4 (RdT S) v xs):ru Ee [v] S (.bool (Lk xs)):=by
 intro w a;refine rr.2 ?_;dsimp only[rr,bd];refine aO h ao ?_;refine jK ?_;rw [Lk];by_cases g:xs.length<=6
 ·rw [aD (show (xs.length:Int)<=6 by omega),aD g];refine rpG ?_;have j:Cb Tryz.prog pz _ [] S (fun _:Unit=>[]) (fun _=>True) (fun _ x=>(!fa x,())) (fun v x=>∃ cs,v=.agg cs.toArray/\RdT S cs x) xs:=
   Cb.pure [] zl yX fun x v _=>by
    rintro ⟨cs,rfl,i⟩ l a;exact (uw i l a).mono fun e w' ⟨m,a⟩=>⟨_,_,_,m,a,Ext.refl _ _ _,rfl,rfl,rfl⟩
  refine Run.call0 gX gY a (lD j h (st:=()) trivial) fun v' I' S' w'=>?_;rintro ⟨rfl,rfl,rfl⟩ _ a;refine c8 ?_;refine rpG ?_;refine done a ?_;rw [ud (fun x=>!fa x) xs,QO];rfl
 ·rw [aM (show ¬ (xs.length:Int)<=6 by omega),aM g];refine rpG ?_;exact done a rfl
theorem jC {c:C} {S:ai} {cs:nA} (h:RdC S cs c):ru Dh [.agg cs.toArray] S (.bool (aZ c)):=by
 intro w a;obtain ⟨q,ks,rfl,m,o⟩:=h;have i:=m;obtain ⟨kv,rfl,r,t,B,D⟩:=RdT.iff.1 m;have l:aZ c=(bY c.head && (hH c.head && Lk c.body)):=by
  unfold aZ Lk;cases bY c.head <;> cases hH c.head <;> simp
 refine oR.2 ?_;dsimp only[oR,bd];rw [l];refine bH a fun p w' a=>?_;refine ax cV ?_;refine gd a 0 (kB c.head kv) af rfl rfl ?_ ?_
 ·intro j v g
  match j with
  | 0|1|2|3=>exact g
  | j+4=>simp at g
 refine Run.callPure th s7 a (oQ i) fun w' a=>?_;cases G:bY c.head
 ·refine rpG ?_;exact done a rfl
 ·refine rpG ?_;refine ax cV ?_;refine gd a 0 (kB c.head kv) af rfl rfl ?_ ?_
  ·intro j v g
   match j with
   | 0|1|2|3=>exact g
   | j+4=>simp at g
  refine Run.callPure yo wJ a (u9 i) fun w' a=>?_;cases J:hH c.head
  ·refine rpG ?_;exact done a rfl
  ·refine rpG ?_;refine ah a 0 rfl bS aw rfl ?_;refine Run.callPure Dv Dx a (zd o) fun w' a=>?_;refine rpG ?_;exact done a rfl
end
end Go.Proofs.YtjbcdmheajljpaaGreat
