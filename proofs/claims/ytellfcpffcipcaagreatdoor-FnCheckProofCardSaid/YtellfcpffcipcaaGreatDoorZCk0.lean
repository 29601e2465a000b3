/- Data that a function has made for itself: trees of blocks that nobody else knows. -/
import Derived.Test.YtellfcpffcipcaaGreatDoorZCkA
import Derived.Test.YtellfcpffcipcaaGreatDoorZCjF
import Derived.Test.YtellfcpffcipcaaGreatDoorZCjgz
namespace Go.Proofs.YtellfcpffcipcaaGreatDoor
attribute [local irreducible] Run CondV aF aT
section
open Go Go.RowKit

abbrev bz:=List (Nat × Obj)
def bE (L:bz):List Item:=L.map fun p=>.blk p.1 p.2
theorem fy (L M:bz):bE (L++M)=bE L++bE M:=by simp [bE]
def Ins (S:ae) (L:bz):Prop:=∀ p∈L,S p.1=some p.2
theorem Ins.mono {S S':ae} {L:bz} (h:Ins S L) (a:Sle S S'):Ins S' L:=fun p f=>a _ _ (h p f)
theorem Ins.left {S:ae} {L M:bz} (h:Ins S (L++M)):Ins S L:=fun p a=>h p (dO _ a)
theorem Ins.right {S:ae} {L M:bz} (h:Ins S (L++M)):Ins S M:=fun p a=>h p (im _ a)
theorem jP {L:bz} {b:Nat}:b∈bS (bE L)↔∃ p∈L,p.1=b:=by
 simp only [bS,bE,List.mem_flatMap,eV];constructor
 ·rintro ⟨it,⟨p,a,rfl⟩,f⟩;simp only [Item.foot,cE] at f;exact ⟨p,a,f.symm⟩
 ·rintro ⟨p,a,rfl⟩;exact ⟨_,⟨p,a,rfl⟩,by simp [Item.foot]⟩

theorem Inv.publishAll {w0 w:World} {X:List Nat} {A:List Item}:∀ (L:bz) {S:ae},Inv w0 X (A++bE L) S w->
  ∃ S',Inv w0 X A S' w/\Sle S S'/\Ins S' L/\∀ b o,S' b=some o->S b=some o ∨ b∈bS (bE L)
 | [],S,h=>⟨S,by simpa [bE] using h,Sle.refl S,by intro p l;simp at l,fun b o g=>.inl g⟩
 | p::L,S,h=>by
  have D:(A++bE (p::L))[A.length]?=some (.blk p.1 p.2):=by simp [bE]
  obtain ⟨i,m⟩:=h.publish D;have G:(A++bE (p::L)).eraseIdx A.length=A++bE L:=by simp [bE,List.eraseIdx_append_of_length_le]
  rw [G] at i;obtain ⟨S',r,j,t,B⟩:=publishAll L i;refine ⟨S',r,m.trans j,fun q a=>?_,fun b o g=>?_⟩
  ·rcases cw.1 a with rfl|a
   ·exact j _ _ (by simp [sq])
   ·exact t q a
  ·rcases B b o g with f|f
   ·simp only [sq] at f;split at f
    ·rename_i e;right;rw [jP];exact ⟨p,bi ..,e.symm⟩
    ·exact .inl f
   ·right;obtain ⟨q,a,e⟩:=jP.1 f;exact jP.2 ⟨q,bk _ a,e⟩

def TrSl {α:Type} (k:Nat) (R:bz->List Value->α->Prop) (L:bz) (v:Value) (xs:List α):Prop:=
 ∃ a cap,v=.slice a xs.length cap/\xs.length<=cap/\cap<=maxLen/\
  ((xs=[]/\L=[]) ∨ ∃ b c E,∃ Ls:List bz,a=some ⟨b,0,none⟩/\L=(b,.cells c E)::Ls.flatten/\Ls.length=xs.length/\cap * k<=c.size/\
   ∀ i (h:i<xs.length) (h':i<Ls.length),R Ls[i] (aO c (i * k) k) xs[i])
inductive TrT:bz->List Value->T->Prop
 | nil {k n:Int} {s:ByteArray} {a:Option Addr} {cap:Nat} (hk:inI k) (hn:inI n) (hs:s.size<=maxLen) (hc:cap<=maxLen) :
   TrT [] [.int .i64 k,.int .i64 n,.string s,.slice a 0 cap] (.mk k n s [])
 | cons {k n:Int} {s:ByteArray} {kids:List T} {b cap:Nat} {c:Array Value} {E:TypeId} {Ls:List bz} (hk:inI k) (hn:inI n) (hs:s.size<=maxLen) (hl:kids.length<=cap) (hc:cap<=maxLen)
   (hLs:Ls.length=kids.length) (hsz:cap * 4<=c.size) (h:∀ i (h:i<kids.length) (h':i<Ls.length),TrT Ls[i] (aO c (i * 4) 4) kids[i]) :
   TrT ((b,.cells c E)::Ls.flatten) [.int .i64 k,.int .i64 n,.string s,.slice (some ⟨b,0,none⟩) kids.length cap] (.mk k n s kids)
theorem TrT.iff {L:bz} {cs:hZ} {t:T}:TrT L cs t ↔
  ∃ j,cs=[ax t.kind,ax t.n,.string t.name,j]/\inI t.kind/\inI t.n/\t.name.size<=maxLen/\TrSl 4 TrT L j t.kids:=by
 constructor
 ·intro h;cases h with
  | nil hk hn i hc=>exact ⟨_,rfl,hk,hn,i,_,_,rfl,bf _,hc,.inl ⟨rfl,rfl⟩⟩
  | cons hk hn i hl hc f g h=>exact ⟨_,rfl,hk,hn,i,_,_,rfl,hl,hc,.inr ⟨_,_,_,_,rfl,rfl,f,g,h⟩⟩
 ·obtain ⟨k,n,s,kids⟩:=t;rintro ⟨j,rfl,hk,hn,i,a,cap,rfl,hl,hc,h⟩;rcases h with ⟨h,rfl⟩|⟨b,c,E,Ls,rfl,rfl,f,g,h⟩
  ·simp only [T.kids] at h;subst h;exact TrT.nil hk hn i hc
  ·exact TrT.cons hk hn i hl hc f g h
theorem TrT.length {L:bz} {cs:hZ} {t:T} (h:TrT L cs t):cs.length=4:=by
 obtain ⟨a,rfl,_⟩:=TrT.iff.1 h;rfl
theorem TrT.one {L:bz} {cs:hZ} {t:T} (h:TrT L cs t):∀ u∈cs,u.oneCell'=true:=by
 obtain ⟨g,rfl,_,_,_,a,cap,rfl,_⟩:=TrT.iff.1 h;intro u f;simp at f;rcases f with rfl|rfl|rfl|rfl <;> rfl
theorem RdT.one {S:ae} {cs:hZ} {t:T} (h:RdT S cs t):∀ u∈cs,u.oneCell'=true:=by
 obtain ⟨g,rfl,_,_,_,a,cap,rfl,_⟩:=RdT.iff.1 h;intro u f;simp at f;rcases f with rfl|rfl|rfl|rfl <;> rfl
theorem Ho {S:ae} {Ls:List bz} (h:Ins S Ls.flatten) {i:Nat} (a:i<Ls.length):Ins S Ls[i]:=
 fun p f=>h p (List.mem_flatten.2 ⟨_,bJ a,f⟩)
theorem TrSl.rd {α:Type} {S:ae} {k:Nat} {R:bz->hZ->α->Prop} {R':hZ->α->Prop} {L:bz} {v:Value} {xs:List α} (h:TrSl k R L v xs) (f:Ins S L)
  (hR:∀ L cs x,Ins S L->R L cs x->R' cs x):RdSl S k R' v xs:=by
 obtain ⟨a,cap,rfl,hl,hc,h⟩:=h;refine ⟨a,cap,rfl,hl,hc,?_⟩;rcases h with ⟨h,_⟩|⟨b,c,E,Ls,rfl,rfl,l,m,h⟩
 ·exact .inl h
 ·refine .inr ⟨b,0,c,E,(0,0),rfl,f _ (bi ..),fun i g=>?_⟩;rw [dr];exact hR _ _ _ (Ho (fun p j=>f p (bk _ j)) (by omega)) (h i g (by omega))
theorem TrT.rd {S:ae} {L:bz} {cs:hZ} {t:T} (h:TrT L cs t) (f:Ins S L):RdT S cs t:=by
 induction h with
 | nil hk hn a hc=>exact RdT.nil hk hn a hc
 | cons hk hn a hl hc l m h q=>
  refine RdT.cons hk hn a hl hc (f _ (bi ..)) (o:=0) fun i g=>?_;rw [dr];exact q i g (by omega) (Ho (fun p j=>f p (bk _ j)) (by omega))
def TrC (L:bz) (cs:List Value) (c:C):Prop:=∃ hd ks L1 L2,cs=hd++[ks]/\L=L1++L2/\TrT L1 hd c.head/\TrSl 4 TrT L2 ks c.body
theorem TrC.rd {S:ae} {L:bz} {cs:hZ} {c:C} (h:TrC L cs c) (a:Ins S L):RdC S cs c:=by
 obtain ⟨hd,f,L1,L2,rfl,rfl,g,i⟩:=h;exact ⟨hd,f,rfl,g.rd a.left,i.rd a.right fun _ _ _ a h=>h.rd a⟩
theorem TrC.length {L:bz} {cs:hZ} {c:C} (h:TrC L cs c):cs.length=5:=by
 obtain ⟨hd,f,L1,L2,rfl,rfl,a,g⟩:=h;simp [a.length]
theorem TrC.one {L:bz} {cs:hZ} {c:C} (h:TrC L cs c):∀ u∈cs,u.oneCell'=true:=by
 obtain ⟨hd,i,L1,L2,rfl,rfl,g,a,cap,rfl,_⟩:=h;intro u f;rcases ci.1 f with f|f
 ·exact g.one u f
 ·simp at f;subst f;rfl

section
variable {P:Program} {w w0:World} {X:List Nat} {L:List Item} {S:ae} {K:Value->World->Prop}
theorem Run.call0 {f:FuncId} {fn:Func} {args:hZ} {Post:Value->List Item->ae->Prop}
  (hf:P.funcs[f]?=some fn) (hn:(fn.name == "runtime.NumGoroutine" || fn.body.isNone)=false) (h:Inv w0 X L S w) (hc:Tri P f args [] S Post)
  (hk:∀ v I' S' w',Post v I' S'->Sle S S'->Inv w0 X (L++I') S' w'->K v w'):Run P (gX (.func (.func f) #[] #[]) args) w K:=
 Run.call (A:=L) (I:=[]) hf hn (by simpa using h) hc hk
theorem cX {T U ty h E:TypeId} {f d b:Nat} {c:Array Value} {v:Value} (l:Inv w0 X L S w) (i:Nat) (m:L[i]?=some (ay b c E)) (hf:bC P T f=some d) (o:jK P U=true) (a:Nat.blt d c.size=true)
  (j:v.cells=#[v]) (r:v.oneCell'=true)
  {K:Value->Value->World->Prop} (hk:∀ w',Inv w0 X (L.set i (ay b (c.setIfInBounds d v) E)) S w'->K (eu b d) undef w') :
  Run P (sOp (.fieldAddr T (.const (ee b)) f) ty) w fun q w'=>Run P (sOp (.store U (.const q) (.const v)) h) w' (K q):=by
 have a:d<c.size:=by simpa [Nat.blt_eq] using a
 apply ah hf;rw [dr];refine dD l i (n:=1) (by rw [j];rfl) (by rw [o];rfl) m (by omega) (by rw [j];simpa using r) fun w' g=>hk w' ?_;have:b0 c d v.cells.toList=c.setIfInBounds d v:=by
  rw [j];apply Gw.1;simp only [b0,abk];have hl:d<c.toList.length:=by simpa using a
  rw [DE,ai hl];simp
 rw [this] at g;exact g
theorem rX {T ty E:TypeId} {o b n:Nat} {c:Array Value} {v:Value} (f:Inv w0 X L S w) (i:Nat) (g:L[i]?=some (ay b c E)) (h:oE P T=some n) (hn:v.cells.size=n) (a:Nat.ble (o+n) c.size=true)
  (j:∀ u∈v.cells.toList,u.oneCell'=true) (hk:∀ w',Inv w0 X (L.set i (ay b (b0 c o v.cells.toList) E)) S w'->K undef w') :
  Run P (sOp (.store T (.const (eu b o)) (.const v)) ty) w K:=
 dD f i hn (by rw [h];simp) g (l9 a) j hk
theorem aq {T ty E:TypeId} {b n:Nat} {c cs:Array Value} (f:Inv w0 X L S w) (i:Nat) (g:L[i]?=some (ay b c E)) (h:oE P T=some n) (hn:cs.size=n) (hc:c.size=n)
  (j:∀ u∈cs.toList,u.oneCell'=true) (hk:∀ w',Inv w0 X (L.set i (ay b cs E)) S w'->K undef w') :
  Run P (sOp (.store T (.const (ee b)) (.const (.agg cs))) ty) w K:=by
 refine dD f i (v:=.agg cs) (n:=n) hn (by rw [h];simp) g (by omega) j fun w' a=>hk w' ?_;have:b0 c 0 (Value.agg cs).cells.toList=cs:=by
  rw [z8 _ _ (by simp [Value.cells,hn,hc])];simp [Value.cells]
 rw [this] at a;exact a
end

theorem TrSl.nil {α:Type} {k:Nat} {R:bz->hZ->α->Prop} {a:Option Addr} {cap:Nat} (hc:cap<=maxLen):TrSl k R [] (.slice a 0 cap) ([]:List α):=
 ⟨a,cap,rfl,bf _,hc,.inl ⟨rfl,rfl⟩⟩
def Part {α:Type} (k:Nat) (R:bz->List Value->α->Prop) (c:Array Value) (Ls:List bz) (xs:List α):Prop:=
 Ls.length=xs.length/\∀ i (h:i<xs.length) (h':i<Ls.length),R Ls[i] (aO c (i * k) k) xs[i]
theorem Part.nil {α:Type} (k:Nat) (R:bz->hZ->α->Prop) (c:Array Value):Part k R c [] ([]:List α):=⟨rfl,fun i h=>by simp at h⟩
theorem Part.snoc {α:Type} {k:Nat} {R:bz->hZ->α->Prop} {c:Array Value} {Ls:List bz} {xs:List α} (h:Part k R c Ls xs) {cs:hZ} {L:bz} {x:α} (l:R L cs x) (hl:cs.length=k)
  (a:(xs.length+1) * k<=c.size):Part k R (b0 c (xs.length * k) cs) (Ls++[L]) (xs++[x]):=by
 have hf:xs.length * k+cs.length<=c.size:=by rw [hl];rw [Ej,Nat.one_mul] at a;exact a
 refine ⟨by simp [h.1],fun i m o=>?_⟩;by_cases g:i<xs.length
 ·have f:i<Ls.length:=by rw [h.1];exact g
  rw [iO f,iO g,lB hf]
  ·exact h.2 i g f
  ·left;have:(i+1) * k<=xs.length * k:=jw _ g;rw [Ej,Nat.one_mul] at this;exact this
 ·have j:i=xs.length:=by simp at m;omega
  subst j;have f:xs.length=Ls.length:=h.1.symm;rw [gF (by omega),gF (by omega)];simp only [f,fH,pi];rw [<- f,<- hl,jE (by rw [hl] at hf ⊢;exact hf)];exact l
theorem Part.sl {α:Type} {k:Nat} {R:bz->hZ->α->Prop} {b:Nat} {c:Array Value} {E:TypeId} {Ls:List bz} {xs:List α} {cap:Nat} (h:Part k R c Ls xs) (a:xs.length<=cap) (f:cap<=maxLen) (g:cap * k<=c.size) :
  TrSl k R ((b,.cells c E)::Ls.flatten) (eF b 0 xs.length cap) xs:=
 ⟨_,cap,rfl,a,f,.inr ⟨b,c,E,Ls,rfl,rfl,h.1,g,h.2⟩⟩
end
section
open Go Go.RowKit
section
variable {P:Program} {w:World} {K:Value->World->Prop} {ty:TypeId}
theorem lP {a:Bool} {v:Value} {A:Prop} (g:a=true->A) (hf:a=false->K (.bool false) w):aF (.bool a) true A (Run P (sOp (.pick (.const (.bool a)) (.const v) (.const (.bool false))) ty) w K):=
 Tj g fun h=>by
  have f:a=false:=by simpa using h
  apply zp;rw [f];exact hf f
theorem jv {a:Bool} {v u:Value} (f:a=true) (hk:K v w):Run P (sOp (.pick (.const (.bool a)) (.const v) (.const u)) ty) w K:=by
 apply zp;rw [f];exact hk
theorem sA {v:Value} {A:Prop} (hk:K (.bool false) w):aF (.bool false) true A (Run P (sOp (.pick (.const (.bool false)) (.const v) (.const (.bool false))) ty) w K):=
 lP (fun h=>by cases h) fun _=>hk
theorem Aq {a:Bool} {v:Value} {A:Prop} (g:a=true->K (.bool true) w) (hf:a=false->A):aF (.bool a) false A (Run P (sOp (.pick (.const (.bool a)) (.const (.bool true)) (.const v)) ty) w K):=
 Tj hf fun h=>by
  have f:a=true:=by simpa using h
  apply zp;rw [f];exact g f
theorem sm {a:Bool} {v u:Value} (f:a=false) (hk:K v w):Run P (sOp (.pick (.const (.bool a)) (.const u) (.const v)) ty) w K:=by
 apply zp;rw [f];exact hk
theorem ac2 {v:Value} {A:Prop} (hk:K (.bool true) w):aF (.bool true) false A (Run P (sOp (.pick (.const (.bool true)) (.const (.bool true)) (.const v)) ty) w K):=
 Aq (fun _=>hk) fun h=>by cases h
end

def rp (cs:List Value) (s:ByteArray):Prop:=cs=[.string s]
def gW (cs:List Value) (n:Int):Prop:=cs=[ax n]
section
variable {P:Program} {w w0:World} {X:List Nat} {L:List Item} {S:ae} {K:Value->World->Prop}
theorem vu (h:Inv w0 X L S w) {s:Sem Next} {v:Nat->Value} {o:Obj} (a:s.run P w=.ok (.value (v w.heap.size)) { w with heap:=w.heap.push o })
  (hk:∀ b w',Inv w0 X (L++[.blk b o]) S w'->K (v b) w'):Run P s w K:=Run.of a (hk _ _ (h.alloc o))
theorem Inv.publishLast {b:Nat} {o:Obj} (h:Inv w0 X (L++[.blk b o]) S w):Inv w0 X L (sq S b o) w/\Sle S (sq S b o):=by
 have a:(L++[Item.blk b o])[L.length]?=some (.blk b o):=by simp
 have:=h.publish a
 rwa [show (L++[Item.blk b o]).eraseIdx L.length=L by simp [List.eraseIdx_append_of_length_le]] at this
theorem gj {α:Type} {T U ty a E:TypeId} {R:hZ->α->Prop} {v u:Value} {xs:List α} (g:Inv w0 X L S w) (h:RdSl S 1 R v xs) (j:dt P T=some (E,1)) (l:jK P U=true)
  {i:Nat} (f:i<xs.length) (hR:∀ cs,R cs xs[i]->cs=[u]) {K:Value->Value->World->Prop} (hk:K (elP v (i * 1)) u w) :
  Run P (sOp (.indexAddr T (.const v) (.const (ax i))) ty) w fun p w'=>Run P (sOp (.load U (.const p)) a) w' (K p):=by
 obtain ⟨b,o,cap,c,E',r,rfl,m,q⟩:=h.at_ f;refine az j f (cS l ?_ hk);rw [g.cellS m];exact aA (hR _ q) 0 u rfl
end
theorem RdSl.ofCells {α:Type} {S:ae} {R:hZ->α->Prop} {b n:Nat} {c:Array Value} {E:TypeId} {a:Nat × Nat} {xs:List α} (f:S b=some (.cells c E a)) (hn:xs.length=n) (g:n<=maxLen)
  (h:∀ i (h:i<xs.length),R (aO c i 1) xs[i]):RdSl S 1 R (eF b 0 n n) xs:=by
 subst hn;exact ⟨_,_,rfl,be _,g,.inr ⟨b,0,c,E,a,rfl,f,fun i j=>by rw [dr,Nat.mul_one];exact h i j⟩⟩
end
section
open Go

def signs:List ByteArray:=[⟨#[43]⟩,⟨#[45]⟩,⟨#[42]⟩,⟨#[47,47]⟩,⟨#[61]⟩,⟨#[92,61]⟩,⟨#[61,61]⟩,⟨#[60]⟩,⟨#[62]⟩,⟨#[61,60]⟩,⟨#[62,61]⟩,⟨#[61,58,61]⟩,⟨#[46]⟩,⟨#[91,93]⟩,⟨#[33]⟩]
def we (b:UInt8):Bool:=decide (97<=b.toNat) && decide (b.toNat<=122)
def wq (s:ByteArray):Bool:=s.data.toList.all we
def o5 (s:ByteArray):Bool:=wq s && (decide (1<=s.size) && decide (s.size<=6))
def nR (s:ByteArray):Bool:=o5 s || signs.any fun x=>decide (x=s)
def emptyB:ByteArray:=⟨#[]⟩
def fp (t:T):Bool:=
 if t.kind=1 then decide (0<=t.n) && (decide (t.n<=25) && (decide (t.name=emptyB) && decide (t.kids.length=0)))
 else if t.kind=2 then decide (-999<=t.n) && (decide (t.n<=999) && (decide (t.name=emptyB) && decide (t.kids.length=0)))
 else if t.kind=3 then decide (t.n=0) && (nR t.name && decide (t.kids.length<=4))
 else false
mutual
def ik:T->Int->Bool
 | .mk k n s ks,d=>if d<1 then false else fp (.mk k n s ks) && ia ks (d - 1)
def ia:List T->Int->Bool
 | [],_=>true
 | t::ts,d=>ik t d && ia ts d
end
mutual
def ez:T->Int
 | .mk _ _ _ ks=>1+dx ks
def dx:List T->Int
 | []=>0
 | t::ts=>ez t+dx ts
end
mutual
def nE:T->Int->Int
 | .mk _ _ _ ks,most=>jl ks 1 most
def jl:List T->Int->Int->Int
 | [],n,_=>n
 | t::ts,n,most=>if n<=most then jl ts (n+nE t (most - n)) most else n
end
def dP (t:T):Bool:=ik t 30 && decide (ez t<=120)

mutual
theorem m7:∀ t:T,1<=ez t
 | .mk _ _ _ ks=>by simp only [ez]; have:=eK ks; omega
theorem eK:∀ ts:List T,0<=dx ts
 | []=>by simp [dx]
 | t::ts=>by simp only [dx]; have:=m7 t; have:=eK ts; omega
end
mutual
theorem DB:∀ (t:T) (most:Int),0<=most->(ez t<=most->nE t most=ez t)/\(most<ez t->most<nE t most/\nE t most<=ez t)
 | .mk _ _ _ ks,most,h=>by
  simp only [ez,nE];have:=Mp ks 1 most h (by omega);exact this
theorem Mp:∀ (ts:List T) (n most:Int),0<=most->1<=n->(n+dx ts<=most->jl ts n most=n+dx ts)/\(most<n+dx ts->most<jl ts n most/\jl ts n most<=n+dx ts)
 | [],n,most,h,h1=>by
  simp only [dx,jl];exact ⟨fun _=>by omega,fun _=>by omega⟩
 | t::ts,n,most,h,h1=>by
  simp only [dx,jl];have j:=m7 t;have hl:=eK ts;by_cases hn:n<=most
  ·rw [ai hn];have f:=DB t (most - n) (by omega);by_cases hc:ez t<=most - n
   ·rw [f.1 hc];have g:=Mp ts (n+ez t) most h (by omega);exact ⟨fun a=>by rw [g.1 (by omega)]; omega,fun a=>by have:=g.2 (by omega); omega⟩
   ·have l:=f.2 (by omega);have i:jl ts (n+nE t (most - n)) most=n+nE t (most - n):=by
     cases ts with
     | nil=>rfl
     | cons u us=>rw [jl,af (by omega)]
    rw [i];exact ⟨fun a=>by omega,fun a=>by omega⟩
  ·rw [af hn];exact ⟨fun a=>by omega,fun a=>by omega⟩
end
theorem Xa (t:T):decide (nE t 120<=120)=decide (ez t<=120):=by
 have h:=DB t 120 (by omega);by_cases hc:ez t<=120
 ·rw [h.1 hc]
 ·have:=h.2 (by omega);rw [aS (by omega),aS hc]

mutual
def iw:T->Int->Int->Bool × Int
 | .mk k n s ks,deep,c=>
  if 120<c+1 ∨ 30<deep then (false,c+1)
  else if k=1 ∨ k=2 then (fp (.mk k n s ks),c+1)
  else if k=3 then (if fp (.mk k n s ks) then px ks (deep+1) (c+1) else (false,c+1))
  else (false,c+1)
def px:List T->Int->Int->Bool × Int
 | [],_,c=>(true,c)
 | t::ts,deep,c=>if (iw t deep c).1 then px ts deep (iw t deep c).2 else (false,(iw t deep c).2)
end
theorem Zk {k n:Int} {s:ByteArray} {a:List T} (h:fp (.mk k n s a)=true) (hk:k=1 ∨ k=2):a=[]:=by
 unfold fp at h;simp only [T.kind,T.n,T.name,T.kids] at h;rcases hk with rfl|rfl <;> simp at h <;> exact h.2.2.2
theorem ZS {k n:Int} {s:ByteArray} {i:List T} (h:fp (.mk k n s i)=true):k=1 ∨ k=2 ∨ k=3:=by
 unfold fp at h;simp only [T.kind,T.n,T.name,T.kids] at h;by_cases a:k=1
 ·exact .inl a
 ·by_cases f:k=2
  ·exact .inr (.inl f)
  ·by_cases g:k=3
   ·exact .inr (.inr g)
   ·simp [a,f,g] at h
mutual
theorem HX:∀ (t:T) (a c:Int),(iw t a c).1=(ik t (31 - a) && decide (c+ez t<=120))/\((iw t a c).1=true->(iw t a c).2=c+ez t)
 | .mk k n s ks,a,c=>by
  have hl:=eK ks;rw [show ez (T.mk k n s ks)=1+dx ks from rfl];simp only [iw,ik];by_cases f:120<c+1 ∨ 30<a
  ·rw [ai f];refine ⟨?_,fun h=>by cases h⟩;rcases f with f|f
   ·rw [aS (show ¬ (c+(1+dx ks)<=120) by omega),m5]
   ·rw [ai (show 31 - a<1 by omega)]; rfl
  ·rw [af f,af (show ¬ (31 - a<1) by omega)];by_cases g:k=1 ∨ k=2
   ·rw [ai g];cases i:fp (.mk k n s ks) with
    | false=>exact ⟨rfl,fun h=>by cases h⟩
    | true=>
     have:=Zk i g;subst this;rw [show dx []=0 from rfl];simp only [ia,dz];exact ⟨by rw [aL (show c+(1+0)<=120 by omega)],fun _=>by omega⟩
   ·rw [af g];by_cases j:k=3
    ·rw [ai j];cases i:fp (.mk k n s ks) with
     | false=>exact ⟨rfl,fun h=>by cases h⟩
     | true=>
      simp only [if_true,dz];have:=R5 ks (a+1) (c+1);rw [show 31 - (a+1)=31 - a - 1 by omega] at this;rw [show c+(1+dx ks)=c+1+dx ks by omega];refine ⟨?_,this.2⟩;rw [this.1];cases ks with
      | nil=>rw [show dx []=0 from rfl,aL (show c+1+0<=120 by omega)]; rfl
      | cons t ts=>simp
    ·rw [af j];have i:fp (.mk k n s ks)=false:=by
      rw [<- PW];intro h;rcases ZS h with e|e|e
      ·exact g (.inl e)
      ·exact g (.inr e)
      ·exact j e
     rw [i];exact ⟨rfl,fun h=>by cases h⟩
theorem R5:∀ (ts:List T) (a c:Int),(px ts a c).1=(ia ts (31 - a) && (ts.isEmpty || decide (c+dx ts<=120)))/\((px ts a c).1=true->(px ts a c).2=c+dx ts)
 | [],a,c=>by simp [px,ia,dx]
 | t::ts,a,c=>by
  have f:=HX t a c;have m:=eK ts;rw [show dx (t::ts)=ez t+dx ts from rfl];simp only [px,ia,List.isEmpty_cons,ib];cases j:(iw t a c).1 with
  | false=>
   rw [j] at f;have g:=f.1;refine ⟨?_,fun h=>by cases h⟩;simp only [H2,if_false];cases i:ik t (31 - a) with
   | false=>rfl
   | true=>
    rw [i,dz] at g;have:¬ (c+ez t<=120):=of_decide_eq_false g.symm;rw [aS (show ¬ (c+(ez t+dx ts)<=120) by omega),m5]
  | true=>
   rw [j] at f;have g:=f.1;have l:=f.2 rfl;simp only [if_true];rw [l];have i:ik t (31 - a)=true/\c+ez t<=120:=by
    have:=g.symm;simpa using this
   have hl:=R5 ts a (c+ez t);rw [show c+(ez t+dx ts)=c+ez t+dx ts by omega];refine ⟨?_,hl.2⟩;rw [hl.1,i.1,dz];cases ts with
   | nil=>rw [show dx []=0 from rfl,aL (show c+ez t+0<=120 by omega)]; rfl
   | cons u us=>simp
end
theorem Ti (t:T):(iw t 1 0).1=dP t:=by
 rw [(HX t 1 0).1,dP];simp
end
section
open Go Go.RowKit

mutual
def wT:T->Nat
 | .mk _ _ s ks=>s.size+ks.length+wL ks
def wL:List T->Nat
 | []=>0
 | t::ts=>wT t+wL ts
end
theorem lf:∀ {ts:List T} {t:T},t∈ts->wT t<=wL ts
 | x::xs,t,h=>by
  simp only [wL];rcases cw.1 h with rfl|h
  ·omega
  ·have:=lf h;omega

abbrev YL {α:Type} (k:Nat) (R:bz->List Value->α->Prop) (S:ae) (xs:List α):Value->List Item->ae->Prop:=
 fun v I' S'=>S'=S/\∃ L,I'=bE L/\TrSl k R L v xs
abbrev Fd (S:ae) (t:T):Value->List Item->ae->Prop:=fun v I' S'=>S'=S/\∃ cs L,v=.agg cs.toArray/\I'=bE L/\TrT L cs t

def wC (c:C):Nat:=wT c.head+c.body.length+wL c.body
def wP:List C->Nat
 | []=>0
 | c::cs=>wC c+wP cs
theorem ZB:∀ {cs:List C} {c:C},c∈cs->wC c<=wP cs
 | x::xs,c,h=>by
  simp only [wP];rcases cw.1 h with rfl|h
  ·omega
  ·have:=ZB h;omega
abbrev adm (S:ae) (c:C):Value->List Item->ae->Prop:=fun v I' S'=>S'=S/\∃ cs L,v=.agg cs.toArray/\I'=bE L/\TrC L cs c
end
section
open Go Go.RowKit

theorem HK {α:Type} (p:α->Bool) (l:List α) (k:Nat) (h:k<l.length):(l.drop k).all p=(p l[k] && (l.drop (k+1)).all p):=by
 rw [dB h,Wu]
theorem So {α:Type} (p:α->Bool) (l:List α) (k:Nat) (h:k<l.length):(l.drop k).any p=(p l[k] || (l.drop (k+1)).any p):=by
 rw [dB h,fD]
theorem sy (s:ByteArray):s.data.toList.length=s.size:=by rw [SZ]; rfl
theorem RT (s:ByteArray) (k:Nat) (h:k<s.size):s.data.toList[k]'(by rw [sy]; exact h)=s[k]:=rfl

theorem Br (s:ByteArray) (o:s.size<=maxLen) (S:ae):ll U5 [.string s] S (.bool (o5 s)):=by
 intro w j;simp only [maxLen] at o;apply Fp.2;dsimp only[Fp,aR];refine ⟨fun i w'=>∃ k:Nat,k<=s.size/\i=ax k/\(s.data.toList.drop k).all we=wq s/\Inv w [] [] S w',fun i _=>s.size - (intOf i).toNat,⟨0,bf _,rfl,rfl,j⟩,?_⟩;intro q;(iterate 17 intro);intro w';rintro ⟨k,hk,rfl,f,j⟩;refine jy bg (bM (aJ (fun m=>?_) (fun m=>?_)))
 ·have g:k<s.size:=by omega
  have a:=HK we s.data.toList k (by rw [sy];exact g);rw [RT s k g] at a;refine ⟨fun t w'=>t=.bool (!we s[k])/\Inv w [] [] S w',?_,?_⟩
  ·refine pe bg g (bM ?_);refine Aq (fun h=>⟨?_,j⟩) (fun h=>?_)
   ·have h:=of_decide_eq_true h;rw [we,aS (show ¬ 97<=s[k].toNat by omega)];rfl
   ·refine pe bg g (ew ?_);refine sm h ⟨?_,j⟩;have h:=of_decide_eq_false h;rw [we,aL (show 97<=s[k].toNat by omega),dz];by_cases l:s[k].toNat<=122
    ·rw [aL l,aS (by omega)];rfl
    ·rw [aS l,aL (by omega)];rfl
  intro t _ _ _ _ _ _ _ _ _ w';rintro ⟨rfl,j⟩;refine aE (fun h=>done j ?_) (fun h=>?_)
  ·simp at h;rw [o5,<- f,a,h];rfl
  ·simp at h;refine bA (by omega) ?_;refine ⟨⟨k+1,g,rfl,by rw [<- f,a,h];rfl,j⟩,by simp [intOf];omega⟩
 ·have:k=s.size:=by omega
  subst this;have hl:wq s=true:=by rw [<- f,<- sy,dY];rfl
  refine jy bg (iS ?_);refine lP (fun h=>?_) (fun h=>done j ?_)
  ·refine jy bg (gJ ?_);refine jv h (done j ?_);have h:=of_decide_eq_true h;rw [o5,hl,aL (show 1<=s.size by omega)];by_cases l:s.size<=6
   ·rw [aL l,aL (by omega)];rfl
   ·rw [aS l,aS (by omega)];rfl
  ·have h:=of_decide_eq_false h;rw [o5,hl,aS (show ¬ 1<=s.size by omega)];rfl

def Dm:Array Value:=(signs.map Value.string).toArray
theorem SS {S:ae} {b:Nat} {E:TypeId} (f:S b=some (.cells Dm E)):RdSl S 1 rp (eF b 0 15 15) signs:=by
 refine RdSl.ofCells f rfl (by decide) ?_;intro i g;have a:i<15:=g
 match i,a with
 | 0,_|1,_|2,_|3,_|4,_|5,_|6,_|7,_|8,_|9,_|10,_|11,_|12,_|13,_|14,_=>rfl
abbrev LP (S:ae):Value->List Item->ae->Prop:=fun v I' S'=>I'=[]/\Sle S S'/\RdSl S' 1 rp v signs
theorem RD {S:ae} {b n:Nat} {o:Obj} (h:n<=b) (a:Sle S (sq S b o)):Ext n [] S (sq S b o):=
 ⟨a,fun c f hc=>by
  simp only [sq] at hc;split at hc
  ·rename_i e;subst e;exact .inr (.inr h)
  ·exact .inl hc⟩
theorem yV (S:ae):kt Rp [] [] S (LP S):=by
 intro w f;apply Ba.2;dsimp only[Ba,ub];refine vu (v:=fun b=>.slice (some ⟨b,0,none⟩) 15 15) (o:=.cells Dm jf) f (by kernel_rfl) fun b w' f=>?_;have a:w.heap.size<=b:=by
  rcases f.new b (by simp [bS,Item.foot]) with h|h
  ·simp [bS] at h
  ·exact h
 obtain ⟨i,g⟩:=Inv.publishLast (L:=[]) f;exact ⟨_,_,_,rfl,i,RD a g,rfl,g,SS (by simp [sq];rfl)⟩
theorem RY (s:ByteArray) {xs:List ByteArray} {S:ae} {v:Value} (h:RdSl S 1 rp v xs):ll XF [v,.string s] S (.bool (xs.any fun x=>decide (x=s))):=by
 intro w j;have l:=h.le;simp only [maxLen] at l;apply Ik.2;dsimp only[Ik,bl];refine ⟨fun i w'=>∃ k:Nat,k<=xs.length/\i=ax k/\(xs.drop k).any (fun x=>decide (x=s))=xs.any (fun x=>decide (x=s))/\Inv w [] [] S w',fun i _=>xs.length - (intOf i).toNat,⟨0,bf _,rfl,rfl,j⟩,?_⟩;intro r _ _ _ _ _ _ _ _ _ _ _ _ _ w';rintro ⟨k,hk,rfl,a,j⟩;refine aI h cZ (bM (aJ (fun m=>?_) (fun m=>?_)))
 ·have g:k<xs.length:=by omega
  have f:=So (fun x=>decide (x=s)) xs k g;refine gj j h cZ aP g (fun cs o=>o) (bB ?_);refine aE (fun q=>done j ?_) (fun q=>?_)
  ·rw [<- a,f,q];rfl
  ·refine bA (by omega) ?_;exact ⟨⟨k+1,g,rfl,by rw [<- a,f,q];rfl,j⟩,by simp [intOf];omega⟩
 ·have:k=xs.length:=by omega
  subst this;exact done j (by rw [<- a,dY];rfl)
theorem iN {w w':World} {L:List Item} {S S':ae} {r a:Value} (h:Inv w [] L S' w') (f:Sle S S') (e:a=r):Ending.returned a=.returned r/\Inv w [] [] S w':=⟨by rw [e],h.nil.less f⟩
theorem DN (s:ByteArray) (g:s.size<=maxLen) (S:ae):ll Ln [.string s] S (.bool (nR s)):=by
 intro w a;apply uK.2;dsimp only[uK,aR];refine Run.callPure Fy Fo a (Br s g S) fun w' a=>?_;refine Aq (fun h=>done a ?_) (fun h=>?_)
 ·rw [nR,h];rfl
 ·refine Run.call0 Cc A2 a (yV S) fun j I' S' w'=>?_;rintro ⟨rfl,_,i⟩ f a;refine Run.callPure Un Tb a (RY s i) fun w' a=>?_;refine sm h (iN a f ?_);rw [nR,h];rfl

theorem QS {t:T} {S:ae} {cs:hZ} (h:RdT S cs t):ll Xe [.agg cs.toArray] S (.bool (fp t)):=by
 intro w a;obtain ⟨kv,rfl,_,_,r,m⟩:=RdT.iff.1 h;obtain ⟨k,n,s,q⟩:=t;simp only [T.name,T.kids,T.kind,T.n] at r m ⊢;apply IX.2;dsimp only[IX,aR];refine bq a fun B w' a=>?_;refine ad a 0 rfl aM aw rfl (bn (aJ (fun hk=>?_) (fun hk=>?_)))
 ·have i:fp (.mk k n s q)=(decide (0<=n) && (decide (n<=25) && (decide (s=emptyB) && decide (q.length=0)))):=by
   rw [fp];exact ai hk
  refine ad a 0 rfl aQ aw rfl (iS (lP (fun f=>?_) (fun f=>?_)))
  ·refine ad a 0 rfl aQ aw rfl (gJ (jv f (lP (fun g=>?_) (fun g=>?_))))
   ·refine ad a 0 rfl aW aP rfl (bB (jv g ?_));refine lP (fun j=>?_) (fun j=>done a ?_)
    ·refine ad a 0 rfl ao aj rfl (aI m ag (bn ?_));refine jv j (done a ?_);rw [i,f,g,show decide (s=emptyB)=true from j];simp
    ·rw [i,f,g,show decide (s=emptyB)=false from j];rfl
   ·refine sA (done a ?_);rw [i,f,g];rfl
  ·refine sA (sA (done a ?_));rw [i,f];rfl
 refine bn (aJ (fun l=>?_) (fun l=>?_))
 ·have i:fp (.mk k n s q)=(decide (-999<=n) && (decide (n<=999) && (decide (s=emptyB) && decide (q.length=0)))):=by
   rw [fp];exact (af hk).trans (ai l)
  refine ad a 0 rfl aQ aw rfl (iS (lP (fun f=>?_) (fun f=>?_)))
  ·refine ad a 0 rfl aQ aw rfl (gJ (jv f (lP (fun g=>?_) (fun g=>?_))))
   ·refine ad a 0 rfl aW aP rfl (bB (jv g ?_));refine lP (fun j=>?_) (fun j=>done a ?_)
    ·refine ad a 0 rfl ao aj rfl (aI m ag (bn ?_));refine jv j (done a ?_);rw [i,f,g,show decide (s=emptyB)=true from j];simp
    ·rw [i,f,g,show decide (s=emptyB)=false from j];rfl
   ·refine sA (done a ?_);rw [i,f,g];rfl
  ·refine sA (sA (done a ?_));rw [i,f];rfl
 apply bn;refine aJ (fun o=>?_) (fun o=>done a ?_)
 ·have i:fp (.mk k n s q)=(decide (n=0) && (nR s && decide (q.length<=4))):=by
   rw [fp];exact (af hk).trans ((af l).trans (ai o))
  refine ad a 0 rfl aQ aw rfl (bn (lP (fun f=>?_) (fun f=>?_)))
  ·refine ad a 0 rfl aW aP rfl (Run.callPure HP Kf a (DN s r S) fun w' a=>?_);apply jv f;refine lP (fun g=>?_) (fun g=>done a ?_)
   ·refine ad a 0 rfl ao aj rfl (aI m ag (gJ ?_));refine jv g (done a ?_);rw [i,f,g];simp;omega
   ·rw [i,f,g];rfl
  ·refine sA (done a ?_);rw [i,f];rfl
 ·rw [fp];exact congrArg Value.bool ((af hk).trans ((af l).trans (af o))).symm

theorem K4:∀ (t:T) (S:ae) (cs:hZ) (d:Int),RdT S cs t->-1<=d->d<=1000->ll Rm [.agg cs.toArray,ax d] S (.bool (ik t d)):=by
 refine T.ind fun k n s g V S cs d h h0 h1=>?_;intro w a;have M:=h;obtain ⟨kv,rfl,_,_,Y,m⟩:=RdT.iff.1 h;simp only [T.name,T.kids,T.kind,T.n] at Y m ⊢;have D:=m.le;simp only [maxLen] at D;apply BC.2;dsimp only[BC,bl];refine bq a fun N w' a=>?_;refine ⟨fun t w'=>t=.bool (decide (d<1) || !fp (.mk k n s g))/\Inv w [] [ay N #[ax k,ax n,.string s,kv] ab] S w',?_,?_⟩
 ·apply bM;refine Aq (fun h=>⟨by rw [h];rfl,a⟩) (fun h=>?_);refine av a 0 ac rfl rfl (Run.callPure TJ Up a (QS M) fun w' a=>?_);apply cq;exact sm h ⟨by rw [h];rfl,a⟩
 intro t _ _ _ _ _ _ w';rintro ⟨rfl,a⟩;refine aE (fun q=>done a ?_) (fun q=>?_)
 ·rw [ik];by_cases hd:d<1
  ·rw [ai hd]
  ·rw [af hd];simp [hd] at q;rw [q];rfl
 have hd:¬ d<1:=fun h=>by simp [h] at q
 have U:fp (.mk k n s g)=true:=by simp [hd] at q;exact q
 refine ⟨fun i w'=>∃ j:Nat,j<=g.length/\i=ax j/\ia (g.drop j) (d - 1)=ia g (d - 1)/\Inv w [] [ay N #[ax k,ax n,.string s,kv] ab] S w',
  fun i _=>g.length - (intOf i).toNat,⟨0,bf _,rfl,rfl,a⟩,?_⟩
 intro Z;(iterate 17 intro);intro w';rintro ⟨j,hj,rfl,f,a⟩;refine ad a 0 rfl ao aj rfl (aI m ag (bM (aJ (fun G=>?_) (fun G=>?_))))
 ·have o:j<g.length:=by omega
  have l:ia (g.drop j) (d - 1)=(ik g[j] (d - 1) && ia (g.drop (j+1)) (d - 1)):=by
   rw [dB o,ia]
  refine ad a 0 rfl ao aj rfl (cL a m ag ac o (fun _ _=>RdT.length) fun J r=>?_);refine je (by omega) (Run.callPure Bd Ae a (V _ (bJ o) S J (d - 1) r (by omega) (by omega)) fun w' a=>?_);apply cq;refine aE (fun B=>done a ?_) (fun O=>?_)
  ·simp at B;rw [ik,af hd,U,<- f,l,B];rfl
  ·simp at O;refine bA (by omega) ?_;exact ⟨⟨j+1,o,rfl,by rw [<- f,l,O];rfl,a⟩,by simp [intOf];omega⟩
 ·have:j=g.length:=by omega
  subst this;refine done a ?_;rw [ik,af hd,U,<- f,dY,ia];rfl

theorem oT:∀ (ts:List T) (j:Nat) (h:j<ts.length),dx (ts.drop j)=ez ts[j]+dx (ts.drop (j+1)):=by
 intro ts j h;rw [dB h,dx]
theorem K7:∀ (t:T) (S:ae) (cs:hZ) (most:Int),RdT S cs t->0<=most->most<=1000->ez t<=4611686018427387904->ll PX [.agg cs.toArray,ax most] S (ax (nE t most)):=by
 refine T.ind fun k n s a Y S cs most h h0 h1 hc=>?_;intro w g;obtain ⟨kv,rfl,_,_,Z,l⟩:=RdT.iff.1 h;simp only [T.name,T.kids,T.kind,T.n] at Z l ⊢;have B:=l.le;simp only [maxLen] at B;rw [show ez (T.mk k n s a)=1+dx a from rfl] at hc;refine Bb.2 ?_;dsimp only[Bb,bl];refine bq g fun N w' g=>?_;refine ⟨fun i m w'=>∃ (j:Nat) (c:Int),j<=a.length/\i=ax j/\m=ax c/\1<=c/\c+dx (a.drop j)<=1+dx a/\jl (a.drop j) c most=jl a 1 most/\Inv w [] [ay N #[ax k,ax n,.string s,kv] ab] S w',
  fun i _ _=>a.length - (intOf i).toNat,⟨0,1,bf _,rfl,rfl,by omega,by rw [yE];omega,rfl,g⟩,?_⟩
 intro t6 _ _ t5;(iterate 21 intro);intro w';rintro ⟨j,c,hj,rfl,rfl,U,V,o,g⟩;refine ⟨fun t w'=>t=.bool (decide (j<a.length) && decide (c<=most))/\Inv w [] [ay N #[ax k,ax n,.string s,kv] ab] S w',?_,?_⟩
 ·refine ad g 0 rfl ao aj rfl (aI l ag (bM ?_));refine lP (fun h=>?_) (fun h=>⟨?_,g⟩)
  ·apply gJ;refine jv h ⟨?_,g⟩;rw [aL (show j<a.length from by have:=of_decide_eq_true h;omega)];rfl
  ·rw [aS (show ¬ j<a.length from by have:=of_decide_eq_false h;omega)];rfl
 intro t _ _ _ _ _ _ _ _ _ w';rintro ⟨rfl,g⟩;refine aE (fun G=>?_) (fun G=>done g ?_)
 ·simp at G;obtain ⟨f,M⟩:=G;have a0:=oT a j f;have q:jl (a.drop j) c most=jl (a.drop (j+1)) (c+nE a[j] (most - c)) most:=by
   rw [dB f,jl,ai M]
  have D:=DB a[j] (most - c) (by omega);have hp:=m7 a[j];have a1:=eK (a.drop (j+1));have O:1<=nE a[j] (most - c)/\nE a[j] (most - c)<=ez a[j]:=by
   by_cases hq:ez a[j]<=most - c
   ·rw [D.1 hq];omega
   ·have:=D.2 (by omega);omega
  refine ad g 0 rfl ao aj rfl (cL g l ag ac f (fun _ _=>RdT.length) fun J r=>?_);refine je (by omega) (Run.callPure A7 Av g (Y _ (bJ f) S J (most - c) r (by omega) (by omega) (by omega)) fun w' g=>?_);refine bA (by omega) (bA (by omega) ?_);exact ⟨⟨j+1,_,f,rfl,rfl,by omega,by omega,by rw [<- o,q],g⟩,by simp [intOf];omega⟩
 ·show Value.int .i64 c=Value.int .i64 (jl a 1 most);rw [<- o];by_cases f:j<a.length
  ·simp [f] at G;rw [dB f,jl,af (by omega)]
  ·rw [xZ (by omega),jl]

mutual
theorem Z5:∀ t:T,ez t<=1+(wT t:Int)
 | .mk k n s ks=>by
  rw [show ez (T.mk k n s ks)=1+dx ks from rfl,wT];have:=DH ks;omega
theorem DH:∀ ts:List T,dx ts<=ts.length+(wL ts:Int)
 | []=>by simp [dx,wL]
 | t::ts=>by
  rw [show dx (t::ts)=ez t+dx ts from rfl,wL,bI];have:=Z5 t; have:=DH ts;omega
end

theorem iq {t:T} {S:ae} {cs:hZ} (h:RdT S cs t) (hc:ez t<=4611686018427387904):ll Ll [.agg cs.toArray] S (.bool (dP t)):=by
 intro w a;have hl:=h.length;apply wm.2;dsimp only[wm,aR];refine bq a fun g w' a=>?_;refine av a 0 ac rfl (by simpa [Value.cells] using hl) (Run.callPure Bd Ae a (K4 t S cs 30 h (by omega) (by omega)) fun w' a=>?_);refine lP (fun f=>?_) (fun f=>done a ?_)
 ·refine av a 0 ac rfl (by simpa [Value.cells] using hl) (Run.callPure A7 Av a (K7 t S cs 120 h (by omega) (by omega) hc) fun w' a=>?_);apply gJ;refine jv f (done a ?_);rw [dP,f,Xa];rfl
 ·rw [dP,f];rfl
end
section
open Go Go.RowKit

def df {α σ:Type} (step:σ->α->Bool × σ):σ->List α->Nat->Int × σ
 | st,[],_=>(-1,st)
 | st,x::xs,k=>if (step st x).1 then ((k:Int),(step st x).2) else df step (step st x).2 xs (k+1)
def pG {α σ:Type} (step:σ->α->Bool × σ):σ->List α->Bool × σ
 | st,[]=>(false,st)
 | st,x::xs=>if (step st x).1 then (true,(step st x).2) else pG step (step st x).2 xs
theorem l5 {α σ:Type} (step:σ->α->Bool × σ):∀ (xs:List α) (st:σ) (k:Nat),decide (0<=(df step st xs k).1)=(pG step st xs).1/\(df step st xs k).2=(pG step st xs).2
 | [],st,k=>by simp [df,pG]
 | x::xs,st,k=>by
  by_cases h:(step st x).1=true
  ·simp [df,pG,h]
  ·simpa [df,pG,h] using l5 step xs (step st x).2 (k+1)
theorem mu {α:Type} (p:α->Bool):∀ xs:List α,pG (σ:=Unit) (fun _ x=>(p x,())) () xs=(xs.any p,())
 | []=>rfl
 | x::xs=>by
  simp only [pG,fD];cases h:p x with
  | true=>rfl
  | false=>rw [mu p xs];rfl
abbrev fv (f:FuncId) (cap:List Value):Value:=.func (.func f) #[] cap.toArray
section
variable {P:Program} {w w0:World} {X:List Nat} {A I:List Item} {S:ae} {K:Value->World->Prop}
theorem M5 {P:Program} {f:FuncId} {fn:Func} {cap args:hZ} {w:World} (hf:P.funcs[f]?=some fn) (hn:(fn.name == "runtime.NumGoroutine" || fn.body.isNone)=false) :
  (gX (fv f cap) args).run P w=.ok (.enter f (args++cap).toArray) w:=by
 simp only [Hy] at hn
 have a:¬ fn.name = "runtime.NumGoroutine" := by simpa using hn.1
 have g:¬ fn.body=none:=fun e=>by rw [e] at hn;simp at hn
 simp [gX,Deferred.ofValue,invoke,callFunc,hf,a,g]
theorem Run.callV {f:FuncId} {fn:Func} {cap args:hZ} {Post:Value->List Item->ae->Prop}
  (hf:P.funcs[f]?=some fn) (hn:(fn.name == "runtime.NumGoroutine" || fn.body.isNone)=false) (h:Inv w0 X (A++I) S w) (hc:Tri P f (args++cap) I S Post)
  (hk:∀ v I' S' w',Post v I' S'->Sle S S'->Inv w0 X (A++I') S' w'->K v w'):Run P (gX (fv f cap) args) w K:=by
 unfold Run;rw [M5 hf hn];refine (hc w (h.sub (eR A I)).begin).mono ?_;rintro e w' ⟨v,I',S',rfl,g,a,i⟩;exact hk v I' S' w' i a.1 (Inv.step h g a.2)
end
structure Cb (P:Program) (f:FuncId) (fn:Func) {α σ:Type} (cap:List Value) (S:ae) (It:σ->List Item) (ok:σ->Prop) (step:σ->α->Bool × σ) (R:Value->α->Prop) (xs:List α):Prop where
 hf:P.funcs[f]?=some fn
 hn:(fn.name == "runtime.NumGoroutine" || fn.body.isNone)=false
 keep:∀ st x,x∈xs->ok st->(step st x).1=false->ok (step st x).2
 call:∀ st x v,x∈xs->ok st->R v x->Tri P f (v::cap) (It st) S fun r I' S'=>r=.bool (step st x).1/\I'=It (step st x).2/\S'=S
theorem Cb.pure {P:Program} {f:FuncId} {fn:Func} {α:Type} {cap:hZ} {S:ae} {p:α->Bool} {R:Value->α->Prop} {xs:List α} (L:List Item) (hf:P.funcs[f]?=some fn) (hn:(fn.name == "runtime.NumGoroutine" || fn.body.isNone)=false)
  (h:∀ x v,x∈xs->R v x->Tri P f (v::cap) L S fun r I' S'=>r=.bool (p x)/\I'=L/\S'=S):Cb P f fn cap S (fun _:Unit=>L) (fun _=>True) (fun _ x=>(p x,())) R xs:=
 ⟨hf,hn,fun _ _ _ _ _=>trivial,fun _ x v a _ hR=>h x v a hR⟩

theorem Ck {σ:Type} {f:FuncId} {fn:Func} {cap:hZ} {S:ae} {It:σ->List Item} {ok:σ->Prop} {step:σ->T->Bool × σ} {xs:List T} {v:Value}
  (l:Cb Tryz.prog f fn cap S It ok step (fun v x=>∃ cs,v=.agg cs.toArray/\RdT S cs x) xs) (h:RdSl S 4 (RdT S) v xs) {st:σ} (D:ok st) :
  kt oZ [v,fv f cap] (It st) S fun r I' S'=>r=ax (df step st xs 0).1/\I'=It (df step st xs 0).2/\S'=S:=by
 intro w o;have t:=h.le;simp only [maxLen] at t;refine g6.2 ?_;dsimp only[g6,bl];refine aI h ag ?_;refine ⟨fun i w'=>∃ (k:Nat) (g:σ),k<=xs.length/\i=ax k/\ok g/\df step g (xs.drop k) k=df step st xs 0/\Inv w (bS (It st)) (It g) S w',fun i _=>xs.length - (intOf i).toNat,
  ⟨0,st,bf _,rfl,D,rfl,o⟩,?_⟩
 intro N _ _ _ _ _ _ _ _ _ _ _ _ w';rintro ⟨k,g,hk,rfl,q,j,o⟩;refine bM (aJ (fun G=>?_) (fun G=>?_))
 ·have m:k<xs.length:=by omega
  have M:=bJ m;have a:df step g (xs.drop k) k=if (step g xs[k]).1 then ((k:Int),(step g xs[k]).2) else df step (step g xs[k]).2 (xs.drop (k+1)) (k+1):=by
   rw [dB m,df]
  refine cL o h ag ac m (fun _ _=>RdT.length) fun cs J=>?_;refine Run.callV (A:=[]) (args:=[.agg cs.toArray]) l.hf l.hn (by simpa using o) (l.call g _ _ M q ⟨cs,rfl,J⟩) fun O I' S' w'=>?_;rintro ⟨rfl,rfl,rfl⟩ _ o;refine aE (fun B=>?_) (fun B=>?_)
  ·rw [ai B] at a;refine ⟨_,_,_,rfl,by simpa using o,Ext.refl _ _ _,?_,?_,rfl⟩
   ·rw [<- j,a]
   ·rw [<- j,a]
  ·refine bA (by omega) ?_;rw [B] at a;refine ⟨⟨k+1,_,m,rfl,l.keep g _ M q B,?_,by simpa using o⟩,by simp [intOf];omega⟩;rw [<- j,a];rfl
 ·have:k=xs.length:=by omega
  subst this;rw [dY,df] at j;exact ⟨_,_,_,rfl,o,Ext.refl _ _ _,by rw [<- j],by rw [<- j],rfl⟩
theorem jx {σ:Type} {f:FuncId} {fn:Func} {cap:hZ} {S:ae} {It:σ->List Item} {ok:σ->Prop} {step:σ->T->Bool × σ} {xs:List T} {v:Value}
  (a:Cb Tryz.prog f fn cap S It ok step (fun v x=>∃ cs,v=.agg cs.toArray/\RdT S cs x) xs) (h:RdSl S 4 (RdT S) v xs) {st:σ} (g:ok st) :
  kt lU [v,fv f cap] (It st) S fun r I' S'=>r=.bool (pG step st xs).1/\I'=It (pG step st xs).2/\S'=S:=by
 intro w i;apply fN.2;dsimp only[fN,bl];refine Run.call (A:=[]) nS nP (by simpa using i) (Ck a h g) fun l I' S' w'=>?_;rintro ⟨rfl,rfl,rfl⟩ _ i;apply iS;have j:=l5 step xs st 0;exact ⟨_,_,_,rfl,by simpa using i,Ext.refl _ _ _,by rw [j.1],by rw [j.2],rfl⟩
theorem xC {σ:Type} {f:FuncId} {fn:Func} {cap:hZ} {S:ae} {It:σ->List Item} {ok:σ->Prop} {step:σ->C->Bool × σ} {xs:List C} {v:Value}
  (l:Cb Tryz.prog f fn cap S It ok step (fun v x=>∃ cs,v=.agg cs.toArray/\RdC S cs x) xs) (h:RdSl S 5 (RdC S) v xs) {st:σ} (D:ok st) :
  kt wb [v,fv f cap] (It st) S fun r I' S'=>r=ax (df step st xs 0).1/\I'=It (df step st xs 0).2/\S'=S:=by
 intro w o;have t:=h.le;simp only [maxLen] at t;refine lT.2 ?_;dsimp only[lT,bl];refine aI h cr ?_;refine ⟨fun i w'=>∃ (k:Nat) (g:σ),k<=xs.length/\i=ax k/\ok g/\df step g (xs.drop k) k=df step st xs 0/\Inv w (bS (It st)) (It g) S w',fun i _=>xs.length - (intOf i).toNat,
  ⟨0,st,bf _,rfl,D,rfl,o⟩,?_⟩
 intro N _ _ _ _ _ _ _ _ _ _ _ _ w';rintro ⟨k,g,hk,rfl,q,j,o⟩;refine bM (aJ (fun G=>?_) (fun G=>?_))
 ·have m:k<xs.length:=by omega
  have M:=bJ m;have a:df step g (xs.drop k) k=if (step g xs[k]).1 then ((k:Int),(step g xs[k]).2) else df step (step g xs[k]).2 (xs.drop (k+1)) (k+1):=by
   rw [dB m,df]
  refine cL o h cr bR m (fun _ _=>RdC.length) fun cs J=>?_;refine Run.callV (A:=[]) (args:=[.agg cs.toArray]) l.hf l.hn (by simpa using o) (l.call g _ _ M q ⟨cs,rfl,J⟩) fun O I' S' w'=>?_;rintro ⟨rfl,rfl,rfl⟩ _ o;refine aE (fun B=>?_) (fun B=>?_)
  ·rw [ai B] at a;refine ⟨_,_,_,rfl,by simpa using o,Ext.refl _ _ _,?_,?_,rfl⟩
   ·rw [<- j,a]
   ·rw [<- j,a]
  ·refine bA (by omega) ?_;rw [B] at a;refine ⟨⟨k+1,_,m,rfl,l.keep g _ M q B,?_,by simpa using o⟩,by simp [intOf];omega⟩;rw [<- j,a];rfl
 ·have:k=xs.length:=by omega
  subst this;rw [dY,df] at j;exact ⟨_,_,_,rfl,o,Ext.refl _ _ _,by rw [<- j],by rw [<- j],rfl⟩
theorem lm {σ:Type} {f:FuncId} {fn:Func} {cap:hZ} {S:ae} {It:σ->List Item} {ok:σ->Prop} {step:σ->C->Bool × σ} {xs:List C} {v:Value}
  (a:Cb Tryz.prog f fn cap S It ok step (fun v x=>∃ cs,v=.agg cs.toArray/\RdC S cs x) xs) (h:RdSl S 5 (RdC S) v xs) {st:σ} (g:ok st) :
  kt rn [v,fv f cap] (It st) S fun r I' S'=>r=.bool (pG step st xs).1/\I'=It (pG step st xs).2/\S'=S:=by
 intro w i;apply jR.2;dsimp only[jR,bl];refine Run.call (A:=[]) uE uD (by simpa using i) (xC a h g) fun l I' S' w'=>?_;rintro ⟨rfl,rfl,rfl⟩ _ i;apply iS;have j:=l5 step xs st 0;exact ⟨_,_,_,rfl,by simpa using i,Ext.refl _ _ _,by rw [j.1],by rw [j.2],rfl⟩
end
end Go.Proofs.YtellfcpffcipcaaGreatDoor
