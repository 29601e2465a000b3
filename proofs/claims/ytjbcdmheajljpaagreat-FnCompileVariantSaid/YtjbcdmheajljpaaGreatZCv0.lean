/- Data that a function has made for itself: trees of blocks that nobody else knows. -/
import Derived.Test.YtjbcdmheajljpaaGreatZCvF
import Derived.Test.YtjbcdmheajljpaaGreatZCvgz
namespace Go.Proofs.YtjbcdmheajljpaaGreat
section
open Go Go.RowKit
attribute [local irreducible] Run CondV aw aI

abbrev aU:=List (Nat × Obj)
def aS (L:aU):List Item:=L.map fun p=>.blk p.1 p.2
theorem cG (L M:aU):aS (L++M)=aS L++aS M:=by simp [aS]
def Ins (S:af) (L:aU):Prop:=∀ p∈L,S p.1=some p.2
theorem Ins.mono {S S':af} {L:aU} (h:Ins S L) (a:Sle S S'):Ins S' L:=fun p g=>a _ _ (h p g)
theorem Ins.left {S:af} {L M:aU} (h:Ins S (L++M)):Ins S L:=fun p a=>h p (iF _ a)
theorem Ins.right {S:af} {L M:aU} (h:Ins S (L++M)):Ins S M:=fun p a=>h p (kG _ a)
theorem gr {L:aU} {b:Nat}:b∈bF (aS L)↔∃ p∈L,p.1=b:=by
 simp only [bF,aS,List.mem_flatMap,mF];constructor
 ·rintro ⟨it,⟨p,a,rfl⟩,g⟩;simp only [Item.foot,fl] at g;exact ⟨p,a,g.symm⟩
 ·rintro ⟨p,a,rfl⟩;exact ⟨_,⟨p,a,rfl⟩,by simp [Item.foot]⟩

theorem Inv.publishAll {w0 w:World} {X:List Nat} {A:List Item}:∀ (L:aU) {S:af},Inv w0 X (A++aS L) S w->
  ∃ S',Inv w0 X A S' w/\Sle S S'/\Ins S' L/\∀ b o,S' b=some o->S b=some o ∨ b∈bF (aS L)
 | [],S,h=>⟨S,by simpa [aS] using h,Sle.refl S,by intro p m; simp at m,fun b o i=>.inl i⟩
 | p::L,S,h=>by
  have C:(A++aS (p::L))[A.length]?=some (.blk p.1 p.2):=by simp [aS]
  obtain ⟨j,r⟩:=h.publish C;have D:(A++aS (p::L)).eraseIdx A.length=A++aS L:=by simp [aS,List.eraseIdx_append_of_length_le]
  rw [D] at j;obtain ⟨S',t,l,u,B⟩:=publishAll L j;refine ⟨S',t,r.trans l,fun q a=>?_,fun b o i=>?_⟩
  ·rcases fm.1 a with rfl|a
   ·exact l _ _ (by simp [jn])
   ·exact u q a
  ·rcases B b o i with g|g
   ·simp only [jn] at g;split at g
    ·rename_i e; right; rw [gr]; exact ⟨p,cQ ..,e.symm⟩
    ·exact .inl g
   ·right;obtain ⟨q,a,e⟩:=gr.1 g;exact gr.2 ⟨q,c7 _ a,e⟩

def TrSl {α:Type} (k:Nat) (R:aU->List Value->α->Prop) (L:aU) (v:Value) (xs:List α):Prop:=
 ∃ a cap,v=.slice a xs.length cap/\xs.length<=cap/\cap<=maxLen/\
  ((xs=[]/\L=[]) ∨ ∃ b c E,∃ Ls:List aU,a=some ⟨b,0,none⟩/\L=(b,.cells c E)::Ls.flatten/\Ls.length=xs.length/\cap * k<=c.size/\
   ∀ i (h:i<xs.length) (h':i<Ls.length),R Ls[i] (bd c (i * k) k) xs[i])
inductive TrT:aU->List Value->T->Prop
 | nil {k n:Int} {s:ByteArray} {a:Option Addr} {cap:Nat} (hk:inI k) (hn:inI n) (hs:s.size<=maxLen) (hc:cap<=maxLen) :
   TrT [] [.int .i64 k,.int .i64 n,.string s,.slice a 0 cap] (.mk k n s [])
 | cons {k n:Int} {s:ByteArray} {kids:List T} {b cap:Nat} {c:Array Value} {E:TypeId} {Ls:List aU} (hk:inI k) (hn:inI n) (hs:s.size<=maxLen) (hl:kids.length<=cap) (hc:cap<=maxLen)
   (hLs:Ls.length=kids.length) (hsz:cap * 4<=c.size) (h:∀ i (h:i<kids.length) (h':i<Ls.length),TrT Ls[i] (bd c (i * 4) 4) kids[i]) :
   TrT ((b,.cells c E)::Ls.flatten) [.int .i64 k,.int .i64 n,.string s,.slice (some ⟨b,0,none⟩) kids.length cap] (.mk k n s kids)
theorem TrT.iff {L:aU} {cs:List Value} {t:T}:TrT L cs t ↔
  ∃ l,cs=[.int .i64 t.kind,.int .i64 t.n,.string t.name,l]/\inI t.kind/\inI t.n/\t.name.size<=maxLen/\TrSl 4 TrT L l t.kids:=by
 constructor
 ·intro h;cases h with
  | nil hk hn j hc=>exact ⟨_,rfl,hk,hn,j,_,_,rfl,aQ _,hc,.inl ⟨rfl,rfl⟩⟩
  | cons hk hn j m hc g i h=>exact ⟨_,rfl,hk,hn,j,_,_,rfl,m,hc,.inr ⟨_,_,_,_,rfl,rfl,g,i,h⟩⟩
 ·obtain ⟨k,n,s,kids⟩:=t;rintro ⟨l,rfl,hk,hn,j,a,cap,rfl,m,hc,h⟩;rcases h with ⟨h,rfl⟩|⟨b,c,E,Ls,rfl,rfl,g,i,h⟩
  ·simp only [T.kids] at h;subst h;exact TrT.nil hk hn j hc
  ·exact TrT.cons hk hn j m hc g i h
theorem TrT.length {L:aU} {cs:List Value} {t:T} (h:TrT L cs t):cs.length=4:=by
 obtain ⟨a,rfl,_⟩:=TrT.iff.1 h; rfl
theorem TrT.one {L:aU} {cs:List Value} {t:T} (h:TrT L cs t):∀ u∈cs,u.oneCell'=true:=by
 obtain ⟨i,rfl,_,_,_,a,cap,rfl,_⟩:=TrT.iff.1 h;intro u g;simp at g;rcases g with rfl|rfl|rfl|rfl <;> rfl
theorem RdT.one {S:af} {cs:List Value} {t:T} (h:RdT S cs t):∀ u∈cs,u.oneCell'=true:=by
 obtain ⟨i,rfl,_,_,_,a,cap,rfl,_⟩:=RdT.iff.1 h;intro u g;simp at g;rcases g with rfl|rfl|rfl|rfl <;> rfl
theorem zH {S:af} {Ls:List aU} (h:Ins S Ls.flatten) {i:Nat} (a:i<Ls.length):Ins S Ls[i]:=
 fun p g=>h p (List.mem_flatten.2 ⟨_,cr a,g⟩)
theorem TrSl.rd {α:Type} {S:af} {k:Nat} {R:aU->List Value->α->Prop} {R':List Value->α->Prop} {L:aU} {v:Value} {xs:List α} (h:TrSl k R L v xs) (g:Ins S L)
  (hR:∀ L cs x,Ins S L->R L cs x->R' cs x):RdSl S k R' v xs:=by
 obtain ⟨a,cap,rfl,m,hc,h⟩:=h;refine ⟨a,cap,rfl,m,hc,?_⟩;rcases h with ⟨h,_⟩|⟨b,c,E,Ls,rfl,rfl,o,q,h⟩
 ·exact .inl h
 ·refine .inr ⟨b,0,c,E,(0,0),rfl,g _ (cQ ..),fun i j=>?_⟩;rw [ct];exact hR _ _ _ (zH (fun p l=>g p (c7 _ l)) (by omega)) (h i j (by omega))
theorem TrT.rd {S:af} {L:aU} {cs:List Value} {t:T} (h:TrT L cs t) (g:Ins S L):RdT S cs t:=by
 induction h with
 | nil hk hn a hc=>exact RdT.nil hk hn a hc
 | cons hk hn a m hc q r h u=>
  refine RdT.cons hk hn a m hc (g _ (cQ ..)) (o:=0) fun i j=>?_;rw [ct];exact u i j (by omega) (zH (fun p l=>g p (c7 _ l)) (by omega))
def TrC (L:aU) (cs:List Value) (c:C):Prop:=∃ hd ks L1 L2,cs=hd++[ks]/\L=L1++L2/\TrT L1 hd c.head/\TrSl 4 TrT L2 ks c.body
theorem TrC.rd {S:af} {L:aU} {cs:List Value} {c:C} (h:TrC L cs c) (a:Ins S L):RdC S cs c:=by
 obtain ⟨g,i,L1,L2,rfl,rfl,j,l⟩:=h;exact ⟨g,i,rfl,j.rd a.left,l.rd a.right fun _ _ _ a h=>h.rd a⟩
theorem TrC.length {L:aU} {cs:List Value} {c:C} (h:TrC L cs c):cs.length=5:=by
 obtain ⟨g,i,L1,L2,rfl,rfl,a,j⟩:=h; simp [a.length]
theorem TrC.one {L:aU} {cs:List Value} {c:C} (h:TrC L cs c):∀ u∈cs,u.oneCell'=true:=by
 obtain ⟨j,l,L1,L2,rfl,rfl,i,a,cap,rfl,_⟩:=h;intro u g;rcases dh.1 g with g|g
 ·exact i.one u g
 ·simp at g; subst g; rfl

section
variable {P:Program} {w w0:World} {X:List Nat} {L:List Item} {S:af} {K:Value->World->Prop}
theorem Run.call0 {f:FuncId} {fn:Func} {args:List Value} {Post:Value->List Item->af->Prop}
  (hf:P.funcs[f]?=some fn) (hn:(fn.name == "runtime.NumGoroutine" || fn.body.isNone)=false) (h:Inv w0 X L S w) (hc:Tri P f args [] S Post)
  (hk:∀ v I' S' w',Post v I' S'->Sle S S'->Inv w0 X (L++I') S' w'->K v w'):Run P (dX (.func (.func f) #[] #[]) args) w K:=
 Run.call (A:=L) (I:=[]) hf hn (by simpa using h) hc hk
theorem dl {T U ty h E:TypeId} {f d b:Nat} {c:Array Value} {v:Value} (l:Inv w0 X L S w) (i:Nat) (m:L[i]?=some (.blk b (.cells c E))) (hf:cA P T f=some d) (o:iv P U=true) (a:Nat.blt d c.size=true)
  (j:v.cells=#[v]) (p:v.oneCell'=true)
  {K:Value->Value->World->Prop} (hk:∀ w',Inv w0 X (L.set i (.blk b (.cells (c.setIfInBounds d v) E))) S w'->K (.pointer (some ⟨b,d,none⟩)) undef w') :
  Run P (sOp (.fieldAddr T (.const (.pointer (some ⟨b,0,none⟩))) f) ty) w fun q w'=>Run P (sOp (.store U (.const q) (.const v)) h) w' (K q):=by
 have a:d<c.size:=by simpa [Nat.blt_eq] using a
 refine ay hf ?_;rw [ct];refine di l i (n:=1) (by rw [j]; rfl) (by rw [o]; rfl) m (by omega) (by rw [j]; simpa using p) fun w' g=>hk w' ?_;have:bx c d v.cells.toList=c.setIfInBounds d v:=by
  rw [j];apply s6.1;simp only [bx,Hz];have r:d<c.toList.length:=by simpa using a
  rw [xb,ai r];simp
 rw [this] at g;exact g
theorem GM {T ty E:TypeId} {o b n:Nat} {c:Array Value} {v:Value} (g:Inv w0 X L S w) (i:Nat) (h:L[i]?=some (.blk b (.cells c E))) (j:kr P T=some n) (hn:v.cells.size=n) (a:Nat.ble (o+n) c.size=true)
  (l:∀ u∈v.cells.toList,u.oneCell'=true) (hk:∀ w',Inv w0 X (L.set i (.blk b (.cells (bx c o v.cells.toList) E))) S w'->K undef w') :
  Run P (sOp (.store T (.const (.pointer (some ⟨b,o,none⟩))) (.const v)) ty) w K:=
 di g i hn (by rw [j]; simp) h (u6 a) l hk
theorem al {T ty E:TypeId} {b n:Nat} {c cs:Array Value} (g:Inv w0 X L S w) (i:Nat) (h:L[i]?=some (.blk b (.cells c E))) (j:kr P T=some n) (hn:cs.size=n) (hc:c.size=n)
  (l:∀ u∈cs.toList,u.oneCell'=true) (hk:∀ w',Inv w0 X (L.set i (.blk b (.cells cs E))) S w'->K undef w') :
  Run P (sOp (.store T (.const (.pointer (some ⟨b,0,none⟩))) (.const (.agg cs))) ty) w K:=by
 refine di g i (v:=.agg cs) (n:=n) hn (by rw [j]; simp) h (by omega) l fun w' a=>hk w' ?_;have:bx c 0 (Value.agg cs).cells.toList=cs:=by
  rw [pg _ _ (by simp [Value.cells,hn,hc])];simp [Value.cells]
 rw [this] at a;exact a
end

theorem TrSl.nil {α:Type} {k:Nat} {R:aU->List Value->α->Prop} {a:Option Addr} {cap:Nat} (hc:cap<=maxLen):TrSl k R [] (.slice a 0 cap) ([]:List α):=
 ⟨a,cap,rfl,aQ _,hc,.inl ⟨rfl,rfl⟩⟩
def Part {α:Type} (k:Nat) (R:aU->List Value->α->Prop) (c:Array Value) (Ls:List aU) (xs:List α):Prop:=
 Ls.length=xs.length/\∀ i (h:i<xs.length) (h':i<Ls.length),R Ls[i] (bd c (i * k) k) xs[i]
theorem Part.nil {α:Type} (k:Nat) (R:aU->List Value->α->Prop) (c:Array Value):Part k R c [] ([]:List α):=⟨rfl,fun i h=>by simp at h⟩
theorem Part.snoc {α:Type} {k:Nat} {R:aU->List Value->α->Prop} {c:Array Value} {Ls:List aU} {xs:List α} (h:Part k R c Ls xs) {cs:List Value} {L:aU} {x:α} (o:R L cs x) (l:cs.length=k)
  (a:(xs.length+1) * k<=c.size):Part k R (bx c (xs.length * k) cs) (Ls++[L]) (xs++[x]):=by
 have hf:xs.length * k+cs.length<=c.size:=by rw [l]; rw [gI,jc] at a; exact a
 refine ⟨by simp [h.1],fun i p q=>?_⟩;by_cases j:i<xs.length
 ·have g:i<Ls.length:=by rw [h.1]; exact j
  rw [lz g,lz j,fc hf]
  ·exact h.2 i j g
  ·left;have:(i+1) * k<=xs.length * k:=eV _ j;rw [gI,jc] at this;exact this
 ·have m:i=xs.length:=by simp at p; omega
  subst m;have g:xs.length=Ls.length:=h.1.symm;rw [m1 (by omega),m1 (by omega)];simp only [g,dY,pb];rw [<- g,<- l,dQ (by rw [l] at hf ⊢; exact hf)];exact o
theorem Part.sl {α:Type} {k:Nat} {R:aU->List Value->α->Prop} {b:Nat} {c:Array Value} {E:TypeId} {Ls:List aU} {xs:List α} {cap:Nat} (h:Part k R c Ls xs) (a:xs.length<=cap) (g:cap<=maxLen) (i:cap * k<=c.size) :
  TrSl k R ((b,.cells c E)::Ls.flatten) (.slice (some ⟨b,0,none⟩) xs.length cap) xs:=
 ⟨_,cap,rfl,a,g,.inr ⟨b,c,E,Ls,rfl,rfl,h.1,i,h.2⟩⟩
end
section
open Go Go.RowKit
section
variable {P:Program} {w:World} {K:Value->World->Prop} {ty:TypeId}
attribute [local irreducible] Run CondV aw aI
theorem gJ {a:Bool} {v:Value} {A:Prop} (i:a=true->A) (hf:a=false->K (.bool false) w):aw (.bool a) true A (Run P (sOp (.pick (.const (.bool a)) (.const v) (.const (.bool false))) ty) w K):=
 CX i fun h=>by
  have g:a=false:=by simpa using h
  refine nw ?_;rw [g];exact hf g
theorem fp {a:Bool} {v u:Value} (g:a=true) (hk:K v w):Run P (sOp (.pick (.const (.bool a)) (.const v) (.const u)) ty) w K:=by
 refine nw ?_;rw [g];exact hk
theorem kF {v:Value} {A:Prop} (hk:K (.bool false) w):aw (.bool false) true A (Run P (sOp (.pick (.const (.bool false)) (.const v) (.const (.bool false))) ty) w K):=
 gJ (fun h=>by cases h) fun _=>hk
theorem yA {a:Bool} {v:Value} {A:Prop} (i:a=true->K (.bool true) w) (hf:a=false->A):aw (.bool a) false A (Run P (sOp (.pick (.const (.bool a)) (.const (.bool true)) (.const v)) ty) w K):=
 CX hf fun h=>by
  have g:a=true:=by simpa using h
  refine nw ?_;rw [g];exact i g
theorem sO {a:Bool} {v u:Value} (g:a=false) (hk:K v w):Run P (sOp (.pick (.const (.bool a)) (.const u) (.const v)) ty) w K:=by
 refine nw ?_;rw [g];exact hk
theorem JR {v:Value} {A:Prop} (hk:K (.bool true) w):aw (.bool true) false A (Run P (sOp (.pick (.const (.bool true)) (.const (.bool true)) (.const v)) ty) w K):=
 yA (fun _=>hk) fun h=>by cases h
end

def ou (cs:List Value) (s:ByteArray):Prop:=cs=[.string s]
def gL (cs:List Value) (n:Int):Prop:=cs=[.int .i64 n]
section
variable {P:Program} {w w0:World} {X:List Nat} {L:List Item} {S:af} {K:Value->World->Prop}
attribute [local irreducible] Run CondV aw aI
theorem l0 (h:Inv w0 X L S w) {s:Sem Next} {v:Nat->Value} {o:Obj} (a:s.run P w=.ok (.value (v w.heap.size)) { w with heap:=w.heap.push o })
  (hk:∀ b w',Inv w0 X (L++[.blk b o]) S w'->K (v b) w'):Run P s w K:=Run.of a (hk _ _ (h.alloc o))
theorem Inv.publishLast {b:Nat} {o:Obj} (h:Inv w0 X (L++[.blk b o]) S w):Inv w0 X L (jn S b o) w/\Sle S (jn S b o):=by
 have a:(L++[Item.blk b o])[L.length]?=some (.blk b o):=by simp
 have:=h.publish a
 rwa [show (L++[Item.blk b o]).eraseIdx L.length=L by simp [List.eraseIdx_append_of_length_le]] at this
theorem i7 {α:Type} {T U ty a E:TypeId} {R:List Value->α->Prop} {v u:Value} {xs:List α} (j:Inv w0 X L S w) (h:RdSl S 1 R v xs) (l:cf P T=some (E,1)) (m:iv P U=true)
  {i:Nat} (g:i<xs.length) (hR:∀ cs,R cs xs[i]->cs=[u]) {K:Value->Value->World->Prop} (hk:K (elP v (i * 1)) u w) :
  Run P (sOp (.indexAddr T (.const v) (.const (.int .i64 i))) ty) w fun p w'=>Run P (sOp (.load U (.const p)) a) w' (K p):=by
 obtain ⟨b,o,cap,c,E',t,rfl,q,r⟩:=h.at_ g;refine aN l g ?_;refine dq m ?_ hk;rw [j.cellS q];exact aX (hR _ r) 0 u rfl
end
theorem RdSl.ofCells {α:Type} {S:af} {R:List Value->α->Prop} {b n:Nat} {c:Array Value} {E:TypeId} {a:Nat × Nat} {xs:List α} (g:S b=some (.cells c E a)) (hn:xs.length=n) (j:n<=maxLen)
  (h:∀ i (h:i<xs.length),R (bd c i 1) xs[i]):RdSl S 1 R (.slice (some ⟨b,0,none⟩) n n) xs:=by
 subst hn;exact ⟨_,_,rfl,a7 _,j,.inr ⟨b,0,c,E,a,rfl,g,fun i l=>by rw [ct,Nat.mul_one]; exact h i l⟩⟩
end
section
open Go

def signs:List ByteArray:=[⟨#[43]⟩,⟨#[45]⟩,⟨#[42]⟩,⟨#[47,47]⟩,⟨#[61]⟩,⟨#[92,61]⟩,⟨#[61,61]⟩,⟨#[60]⟩,⟨#[62]⟩,⟨#[61,60]⟩,⟨#[62,61]⟩,⟨#[61,58,61]⟩,⟨#[46]⟩,⟨#[91,93]⟩,⟨#[33]⟩]
def lR (b:UInt8):Bool:=decide (97<=b.toNat) && decide (b.toNat<=122)
def lj (s:ByteArray):Bool:=s.data.toList.all lR
def i4 (s:ByteArray):Bool:=lj s && (decide (1<=s.size) && decide (s.size<=6))
def gE (s:ByteArray):Bool:=i4 s || signs.any fun x=>decide (x=s)
def emptyB:ByteArray:=⟨#[]⟩
def dA (t:T):Bool:=
 if t.kind=1 then decide (0<=t.n) && (decide (t.n<=25) && (decide (t.name=emptyB) && decide (t.kids.length=0)))
 else if t.kind=2 then decide (-999<=t.n) && (decide (t.n<=999) && (decide (t.name=emptyB) && decide (t.kids.length=0)))
 else if t.kind=3 then decide (t.n=0) && (gE t.name && decide (t.kids.length<=4))
 else false
mutual
def cP:T->Int->Bool
 | .mk k n s ks,d=>if d<1 then false else dA (.mk k n s ks) && cK ks (d - 1)
def cK:List T->Int->Bool
 | [],_=>true
 | t::ts,d=>cP t d && cK ts d
end
mutual
def bT:T->Int
 | .mk _ _ _ ks=>1+bi ks
def bi:List T->Int
 | []=>0
 | t::ts=>bT t+bi ts
end
mutual
def gP:T->Int->Int
 | .mk _ _ _ ks,most=>eL ks 1 most
def eL:List T->Int->Int->Int
 | [],n,_=>n
 | t::ts,n,most=>if n<=most then eL ts (n+gP t (most - n)) most else n
end
def cD (t:T):Bool:=cP t 30 && decide (bT t<=120)

mutual
theorem de:∀ t:T,1<=bT t
 | .mk _ _ _ ks=>by simp only [bT]; have:=bW ks; omega
theorem bW:∀ a:List T,0<=bi a
 | []=>by simp [bi]
 | t::a=>by simp only [bi]; have:=de t; have:=bW a; omega
end
mutual
theorem qN:∀ (t:T) (a:Int),0<=a->(bT t<=a->gP t a=bT t)/\(a<bT t->a<gP t a/\gP t a<=bT t)
 | .mk _ _ _ ks,a,h=>by
  simp only [bT,gP];have:=xI ks 1 a h (by omega);exact this
theorem xI:∀ (g:List T) (n a:Int),0<=a->1<=n->(n+bi g<=a->eL g n a=n+bi g)/\(a<n+bi g->a<eL g n a/\eL g n a<=n+bi g)
 | [],n,a,h,h1=>by
  simp only [bi,eL];exact ⟨fun _=>by omega,fun _=>by omega⟩
 | t::g,n,a,h,h1=>by
  simp only [bi,eL];have o:=de t;have p:=bW g;by_cases hn:n<=a
  ·rw [ai hn];have j:=qN t (a - n) (by omega);by_cases hc:bT t<=a - n
   ·rw [j.1 hc];have l:=xI g (n+bT t) a h (by omega);exact ⟨fun i=>by rw [l.1 (by omega)]; omega,fun i=>by have:=l.2 (by omega); omega⟩
   ·have q:=j.2 (by omega);have m:eL g (n+gP t (a - n)) a=n+gP t (a - n):=by
     cases g with
     | nil=>rfl
     | cons u r=>rw [eL,ah (by omega)]
    rw [m];exact ⟨fun i=>by omega,fun i=>by omega⟩
  ·rw [ah hn];exact ⟨fun i=>by omega,fun i=>by omega⟩
end
theorem FP (t:T):decide (gP t 120<=120)=decide (bT t<=120):=by
 have h:=qN t 120 (by omega);by_cases hc:bT t<=120
 ·rw [h.1 hc]
 ·have:=h.2 (by omega);rw [bk (by omega),bk hc]

mutual
def d6:T->Int->Int->Bool × Int
 | .mk k n s ks,deep,c=>
  if 120<c+1 ∨ 30<deep then (false,c+1)
  else if k=1 ∨ k=2 then (dA (.mk k n s ks),c+1)
  else if k=3 then (if dA (.mk k n s ks) then iC ks (deep+1) (c+1) else (false,c+1))
  else (false,c+1)
def iC:List T->Int->Int->Bool × Int
 | [],_,c=>(true,c)
 | t::ts,deep,c=>if (d6 t deep c).1 then iC ts deep (d6 t deep c).2 else (false,(d6 t deep c).2)
end
theorem zU {k n:Int} {s:ByteArray} {a:List T} (h:dA (.mk k n s a)=true) (hk:k=1 ∨ k=2):a=[]:=by
 unfold dA at h;simp only [T.kind,T.n,T.name,T.kids] at h;rcases hk with rfl|rfl <;> simp at h <;> exact h.2.2.2
theorem Gr {k n:Int} {s:ByteArray} {j:List T} (h:dA (.mk k n s j)=true):k=1 ∨ k=2 ∨ k=3:=by
 unfold dA at h;simp only [T.kind,T.n,T.name,T.kids] at h;by_cases a:k=1
 ·exact .inl a
 ·by_cases g:k=2
  ·exact .inr (.inl g)
  ·by_cases i:k=3
   ·exact .inr (.inr i)
   ·simp [a,g,i] at h
mutual
theorem uD:∀ (t:T) (a c:Int),(d6 t a c).1=(cP t (31 - a) && decide (c+bT t<=120))/\((d6 t a c).1=true->(d6 t a c).2=c+bT t)
 | .mk k n s ks,a,c=>by
  have m:=bW ks;rw [show bT (T.mk k n s ks)=1+bi ks from rfl];simp only [d6,cP];by_cases g:120<c+1 ∨ 30<a
  ·rw [ai g];refine ⟨?_,fun h=>by cases h⟩;rcases g with g|g
   ·rw [bk (show ¬ (c+(1+bi ks)<=120) by omega),Ao]
   ·rw [ai (show 31 - a<1 by omega)]; rfl
  ·rw [ah g,ah (show ¬ (31 - a<1) by omega)];by_cases i:k=1 ∨ k=2
   ·rw [ai i];cases j:dA (.mk k n s ks) with
    | false=>exact ⟨rfl,fun h=>by cases h⟩
    | true=>
     have:=zU j i;subst this;rw [show bi []=0 from rfl];simp only [cK,dL];exact ⟨by rw [bb (show c+(1+0)<=120 by omega)],fun _=>by omega⟩
   ·rw [ah i];by_cases l:k=3
    ·rw [ai l];cases j:dA (.mk k n s ks) with
     | false=>exact ⟨rfl,fun h=>by cases h⟩
     | true=>
      simp only [if_true,dL];have:=Cj ks (a+1) (c+1);rw [show 31 - (a+1)=31 - a - 1 by omega] at this;rw [show c+(1+bi ks)=c+1+bi ks by omega];refine ⟨?_,this.2⟩;rw [this.1];cases ks with
      | nil=>rw [show bi []=0 from rfl,bb (show c+1+0<=120 by omega)]; rfl
      | cons t o=>simp
    ·rw [ah l];have j:dA (.mk k n s ks)=false:=by
      rw [<- Bool.not_eq_true];intro h;rcases Gr h with e|e|e
      ·exact i (.inl e)
      ·exact i (.inr e)
      ·exact l e
     rw [j];exact ⟨rfl,fun h=>by cases h⟩
theorem Cj:∀ (g:List T) (a c:Int),(iC g a c).1=(cK g (31 - a) && (g.isEmpty || decide (c+bi g<=120)))/\((iC g a c).1=true->(iC g a c).2=c+bi g)
 | [],a,c=>by simp [iC,cK,bi]
 | t::g,a,c=>by
  have i:=uD t a c;have q:=bW g;rw [show bi (t::g)=bT t+bi g from rfl];simp only [iC,cK,List.isEmpty_cons,fo];cases o:(d6 t a c).1 with
  | false=>
   rw [o] at i;have j:=i.1;refine ⟨?_,fun h=>by cases h⟩;simp only [sB,if_false];cases l:cP t (31 - a) with
   | false=>rfl
   | true=>
    rw [l,dL] at j;have:¬ (c+bT t<=120):=of_decide_eq_false j.symm;rw [bk (show ¬ (c+(bT t+bi g)<=120) by omega),Ao]
  | true=>
   rw [o] at i;have j:=i.1;have p:=i.2 rfl;simp only [if_true];rw [p];have l:cP t (31 - a)=true/\c+bT t<=120:=by
    have:=j.symm;simpa using this
   have m:=Cj g a (c+bT t);rw [show c+(bT t+bi g)=c+bT t+bi g by omega];refine ⟨?_,m.2⟩;rw [m.1,l.1,dL];cases g with
   | nil=>rw [show bi []=0 from rfl,bb (show c+bT t+0<=120 by omega)]; rfl
   | cons u r=>simp
end
theorem Cs (t:T):(d6 t 1 0).1=cD t:=by
 rw [(uD t 1 0).1,cD];simp
end
section
open Go Go.RowKit
attribute [local irreducible] Run CondV aw aI

mutual
def wT:T->Nat
 | .mk _ _ s ks=>s.size+ks.length+wL ks
def wL:List T->Nat
 | []=>0
 | t::ts=>wT t+wL ts
end
theorem ji:∀ {a:List T} {t:T},t∈a->wT t<=wL a
 | x::xs,t,h=>by
  simp only [wL];rcases fm.1 h with rfl|h
  ·omega
  ·have:=ji h; omega

abbrev Hk {α:Type} (k:Nat) (R:aU->List Value->α->Prop) (S:af) (xs:List α):Value->List Item->af->Prop:=
 fun v I' S'=>S'=S/\∃ L,I'=aS L/\TrSl k R L v xs
abbrev uF (S:af) (t:T):Value->List Item->af->Prop:=fun v I' S'=>S'=S/\∃ cs L,v=.agg cs.toArray/\I'=aS L/\TrT L cs t

def wC (c:C):Nat:=wT c.head+c.body.length+wL c.body
def wP:List C->Nat
 | []=>0
 | c::cs=>wC c+wP cs
abbrev IA (S:af) (c:C):Value->List Item->af->Prop:=fun v I' S'=>S'=S/\∃ cs L,v=.agg cs.toArray/\I'=aS L/\TrC L cs c
end
section
open Go Go.RowKit
attribute [local irreducible] Run CondV aw aI

theorem Bn {α:Type} (p:α->Bool) (l:List α) (k:Nat) (h:k<l.length):(l.drop k).all p=(p l[k] && (l.drop (k+1)).all p):=by
 rw [dr h,List.all_cons]
theorem GV {α:Type} (p:α->Bool) (l:List α) (k:Nat) (h:k<l.length):(l.drop k).any p=(p l[k] || (l.drop (k+1)).any p):=by
 rw [dr h,dS]
theorem jS (s:ByteArray):s.data.toList.length=s.size:=by rw [FL]; rfl
theorem Cq (s:ByteArray) (k:Nat) (h:k<s.size):s.data.toList[k]'(by rw [jS]; exact h)=s[k]:=rfl

theorem oM (s:ByteArray) (q:s.size<=maxLen) (S:af):Pure Tryz.prog CN [.string s] S (.bool (i4 s)):=by
 intro w l;simp only [maxLen] at q;refine rj.2 ?_;dsimp only[rj,aG];refine ⟨fun i w'=>∃ k:Nat,k<=s.size/\i=.int .i64 k/\(s.data.toList.drop k).all lR=lj s/\Inv w [] [] S w',fun i _=>s.size - (intOf i).toNat,⟨0,aQ _,rfl,rfl,l⟩,?_⟩;intro r _ _ _ _ _ _ _ _ _ _ _ _ _ _ _ _ _ w';rintro ⟨k,hk,rfl,g,l⟩;refine il aD ?_;refine cq ?_;refine aR (fun o=>?_) (fun o=>?_)
 ·have j:k<s.size:=by omega
  have a:=Bn lR s.data.toList k (by rw [jS]; exact j);rw [Cq s k j] at a;refine ⟨fun t w'=>t=.bool (!lR s[k])/\Inv w [] [] S w',?_,?_⟩
  ·refine iw aD j ?_;refine cq ?_;refine yA (fun h=>⟨?_,l⟩) (fun h=>?_)
   ·have h:=of_decide_eq_true h;rw [lR,bk (show ¬ 97<=s[k].toNat by omega)]; rfl
   ·refine iw aD j ?_;refine eD ?_;refine sO h ⟨?_,l⟩;have h:=of_decide_eq_false h;rw [lR,bb (show 97<=s[k].toNat by omega),dL];by_cases m:s[k].toNat<=122
    ·rw [bb m,bk (by omega)]; rfl
    ·rw [bk m,bb (by omega)]; rfl
  intro t _ _ _ _ _ _ _ _ _ w';rintro ⟨rfl,l⟩;refine aE (fun h=>done l ?_) (fun h=>?_)
  ·simp at h;rw [i4,<- g,a,h]; rfl
  ·simp at h;refine bz (by omega) ?_;refine ⟨⟨k+1,j,rfl,by rw [<- g,a,h]; rfl,l⟩,by simp [intOf]; omega⟩
 ·have:k=s.size:=by omega
  subst this;have p:lj s=true:=by rw [<- g,<- jS,dV]; rfl
  refine il aD ?_;refine jI ?_;refine gJ (fun h=>?_) (fun h=>done l ?_)
  ·refine il aD ?_;refine fI ?_;refine fp h (done l ?_);have h:=of_decide_eq_true h;rw [i4,p,bb (show 1<=s.size by omega)];by_cases m:s.size<=6
   ·rw [bb m,bb (by omega)]; rfl
   ·rw [bk m,bk (by omega)]; rfl
  ·have h:=of_decide_eq_false h;rw [i4,p,bk (show ¬ 1<=s.size by omega)]; rfl

def qb:Array Value:=(signs.map Value.string).toArray
theorem AG {S:af} {b:Nat} {E:TypeId} (g:S b=some (.cells qb E)):RdSl S 1 ou (.slice (some ⟨b,0,none⟩) 15 15) signs:=by
 refine RdSl.ofCells g rfl (by decide) ?_;intro i h;have a:i<15:=h
 match i,a with
 | 0,_|1,_|2,_|3,_|4,_|5,_|6,_|7,_|8,_|9,_|10,_|11,_|12,_|13,_|14,_=>rfl
abbrev xn (S:af):Value->List Item->af->Prop:=fun v I' S'=>I'=[]/\Sle S S'/\RdSl S' 1 ou v signs
theorem BK {S:af} {b n:Nat} {o:Obj} (h:n<=b) (a:Sle S (jn S b o)):Ext n [] S (jn S b o):=
 ⟨a,fun c o' hc=>by
  simp only [jn] at hc;split at hc
  ·rename_i e; subst e; exact .inr (.inr h)
  ·exact .inl hc⟩
theorem mV (S:af):Tri Tryz.prog Bf [] [] S (xn S):=by
 intro w g;refine oj.2 ?_;dsimp only[oj,mB];refine l0 (v:=fun b=>.slice (some ⟨b,0,none⟩) 15 15) (o:=.cells qb eO) g (by kernel_rfl) fun b w' g=>?_;have a:w.heap.size<=b:=by
  rcases g.new b (by simp [bF,Item.foot]) with h|h
  ·simp [bF] at h
  ·exact h
 obtain ⟨j,i⟩:=Inv.publishLast (L:=[]) g;exact ⟨_,_,_,rfl,j,BK a i,rfl,i,AG (by simp [jn]; rfl)⟩
theorem zV (s:ByteArray) {xs:List ByteArray} {S:af} {v:Value} (h:RdSl S 1 ou v xs):Pure Tryz.prog Fo [v,.string s] S (.bool (xs.any fun x=>decide (x=s))):=by
 intro w l;have m:=h.le;simp only [maxLen] at m;refine u9.2 ?_;dsimp only[u9,a6];refine ⟨fun i w'=>∃ k:Nat,k<=xs.length/\i=.int .i64 k/\(xs.drop k).any (fun x=>decide (x=s))=xs.any (fun x=>decide (x=s))/\Inv w [] [] S w',fun i _=>xs.length - (intOf i).toNat,⟨0,aQ _,rfl,rfl,l⟩,?_⟩;intro r _ _ _ _ _ _ _ _ _ _ _ _ _ w';rintro ⟨k,hk,rfl,a,l⟩;refine aL h ci ?_;refine cq ?_;refine aR (fun o=>?_) (fun o=>?_)
 ·have j:k<xs.length:=by omega
  have g:=GV (fun x=>decide (x=s)) xs k j;refine i7 l h ci aO j (fun cs p=>p) ?_;refine bU ?_;refine aE (fun q=>done l ?_) (fun q=>?_)
  ·rw [<- a,g,q]; rfl
  ·refine bz (by omega) ?_;exact ⟨⟨k+1,j,rfl,by rw [<- a,g,q]; rfl,l⟩,by simp [intOf]; omega⟩
 ·have:k=xs.length:=by omega
  subst this;exact done l (by rw [<- a,dV]; rfl)
theorem rt {w w':World} {L:List Item} {S S':af} {r a:Value} (h:Inv w [] L S' w') (g:Sle S S') (e:a=r):Ending.returned a=.returned r/\Inv w [] [] S w':=⟨by rw [e],h.nil.less g⟩
theorem qg (s:ByteArray) (i:s.size<=maxLen) (S:af):Pure Tryz.prog wk [.string s] S (.bool (gE s)):=by
 intro w a;refine lO.2 ?_;dsimp only[lO,aG];refine Run.callPure rU sS a (oM s i S) fun w' a=>?_;refine yA (fun h=>done a ?_) (fun h=>?_)
 ·rw [gE,h]; rfl
 ·refine Run.call0 oh nZ a (mV S) fun l I' S' w'=>?_;rintro ⟨rfl,_,j⟩ g a;refine Run.callPure Dm CA a (zV s j) fun w' a=>?_;refine sO h (rt a g ?_);rw [gE,h]; rfl

theorem BP {t:T} {S:af} {cs:List Value} (h:RdT S cs t):Pure Tryz.prog Fb [.agg cs.toArray] S (.bool (dA t)):=by
 intro w a;obtain ⟨kv,rfl,_,_,r,o⟩:=RdT.iff.1 h;obtain ⟨k,n,s,q⟩:=t;simp only [T.name,T.kids,T.kind,T.n] at r o ⊢;refine ve.2 ?_;dsimp only[ve,aG];refine bB a fun u w' a=>?_;refine ag a 0 rfl aV az rfl ?_;refine bo ?_;refine aR (fun hk=>?_) (fun hk=>?_)
 ·have j:dA (.mk k n s q)=(decide (0<=n) && (decide (n<=25) && (decide (s=emptyB) && decide (q.length=0)))):=by
   rw [dA]; exact ai hk
  refine ag a 0 rfl aM az rfl ?_;refine jI ?_;refine gJ (fun g=>?_) (fun g=>?_)
  ·refine ag a 0 rfl aM az rfl ?_;refine fI ?_;refine fp g ?_;refine gJ (fun i=>?_) (fun i=>?_)
   ·refine ag a 0 rfl aW aO rfl ?_;refine bU ?_;refine fp i ?_;refine gJ (fun l=>?_) (fun l=>done a ?_)
    ·refine ag a 0 rfl av ar rfl ?_;refine aL o ao ?_;refine bo ?_;refine fp l (done a ?_);rw [j,g,i,show decide (s=emptyB)=true from l];simp
    ·rw [j,g,i,show decide (s=emptyB)=false from l]; rfl
   ·refine kF (done a ?_);rw [j,g,i]; rfl
  ·refine kF (kF (done a ?_));rw [j,g]; rfl
 refine bo ?_;refine aR (fun m=>?_) (fun m=>?_)
 ·have j:dA (.mk k n s q)=(decide (-999<=n) && (decide (n<=999) && (decide (s=emptyB) && decide (q.length=0)))):=by
   rw [dA]; exact (ah hk).trans (ai m)
  refine ag a 0 rfl aM az rfl ?_;refine jI ?_;refine gJ (fun g=>?_) (fun g=>?_)
  ·refine ag a 0 rfl aM az rfl ?_;refine fI ?_;refine fp g ?_;refine gJ (fun i=>?_) (fun i=>?_)
   ·refine ag a 0 rfl aW aO rfl ?_;refine bU ?_;refine fp i ?_;refine gJ (fun l=>?_) (fun l=>done a ?_)
    ·refine ag a 0 rfl av ar rfl ?_;refine aL o ao ?_;refine bo ?_;refine fp l (done a ?_);rw [j,g,i,show decide (s=emptyB)=true from l];simp
    ·rw [j,g,i,show decide (s=emptyB)=false from l]; rfl
   ·refine kF (done a ?_);rw [j,g,i]; rfl
  ·refine kF (kF (done a ?_));rw [j,g]; rfl
 refine bo ?_;refine aR (fun p=>?_) (fun p=>done a ?_)
 ·have j:dA (.mk k n s q)=(decide (n=0) && (gE s && decide (q.length<=4))):=by
   rw [dA]; exact (ah hk).trans ((ah m).trans (ai p))
  refine ag a 0 rfl aM az rfl ?_;refine bo ?_;refine gJ (fun g=>?_) (fun g=>?_)
  ·refine ag a 0 rfl aW aO rfl ?_;refine Run.callPure tF vb a (qg s r S) fun w' a=>?_;refine fp g ?_;refine gJ (fun i=>?_) (fun i=>done a ?_)
   ·refine ag a 0 rfl av ar rfl ?_;refine aL o ao ?_;refine fI ?_;refine fp i (done a ?_);rw [j,g,i];simp;omega
   ·rw [j,g,i]; rfl
  ·refine kF (done a ?_);rw [j,g]; rfl
 ·rw [dA];exact congrArg Value.bool ((ah hk).trans ((ah m).trans (ah p))).symm

theorem wM:∀ (t:T) (S:af) (cs:List Value) (d:Int),RdT S cs t->-1<=d->d<=1000->Pure Tryz.prog Am [.agg cs.toArray,.int .i64 d] S (.bool (cP t d)):=by
 refine T.ind fun k n s l U S cs d h h0 h1=>?_;intro w a;have J:=h;obtain ⟨kv,rfl,_,_,V,o⟩:=RdT.iff.1 h;simp only [T.name,T.kids,T.kind,T.n] at V o ⊢;have C:=o.le;simp only [maxLen] at C;refine oQ.2 ?_;dsimp only[oQ,a6];refine bB a fun M w' a=>?_;refine ⟨fun t w'=>t=.bool (decide (d<1) || !dA (.mk k n s l))/\Inv w [] [.blk M (.cells #[.int .i64 k,.int .i64 n,.string s,kv] ac)] S w',?_,?_⟩
 ·refine cq ?_;refine yA (fun h=>⟨by rw [h]; rfl,a⟩) (fun h=>?_);refine au a 0 ad rfl rfl ?_;refine Run.callPure DB Dq a (BP J) fun w' a=>?_;refine dD ?_;exact sO h ⟨by rw [h]; rfl,a⟩
 intro t _ _ _ _ _ _ w';rintro ⟨rfl,a⟩;refine aE (fun r=>done a ?_) (fun r=>?_)
 ·rw [cP];by_cases q:d<1
  ·rw [ai q]
  ·rw [ah q];simp [q] at r;rw [r]; rfl
 have q:¬ d<1:=fun h=>by simp [h] at r
 have O:dA (.mk k n s l)=true:=by simp [q] at r; exact r
 refine ⟨fun i w'=>∃ j:Nat,j<=l.length/\i=.int .i64 j/\cK (l.drop j) (d - 1)=cK l (d - 1)/\Inv w [] [.blk M (.cells #[.int .i64 k,.int .i64 n,.string s,kv] ac)] S w',
  fun i _=>l.length - (intOf i).toNat,⟨0,aQ _,rfl,rfl,a⟩,?_⟩
 intro Y _ _ _ _ _ _ _ _ _ _ _ _ _ _ _ _ _ w';rintro ⟨j,Z,rfl,g,a⟩;refine ag a 0 rfl av ar rfl ?_;refine aL o ao ?_;refine cq ?_;refine aR (fun D=>?_) (fun D=>?_)
 ·have p:j<l.length:=by omega
  have m:cK (l.drop j) (d - 1)=(cP l[j] (d - 1) && cK (l.drop (j+1)) (d - 1)):=by
   rw [dr p,cK]
  refine ag a 0 rfl av ar rfl ?_;refine dx a o ao ad p (fun _ _=>RdT.length) fun G u=>?_;refine ld (by omega) ?_;refine Run.callPure n5 nV a (U _ (cr p) S G (d - 1) u (by omega) (by omega)) fun w' a=>?_;refine dD ?_;refine aE (fun B=>done a ?_) (fun N=>?_)
  ·simp at B;rw [cP,ah q,O,<- g,m,B]; rfl
  ·simp at N;refine bz (by omega) ?_;exact ⟨⟨j+1,p,rfl,by rw [<- g,m,N]; rfl,a⟩,by simp [intOf]; omega⟩
 ·have:j=l.length:=by omega
  subst this;refine done a ?_;rw [cP,ah q,O,<- g,dV,cK]; rfl

theorem nb:∀ (a:List T) (j:Nat) (h:j<a.length),bi (a.drop j)=bT a[j]+bi (a.drop (j+1)):=by
 intro a j h;rw [dr h,bi]
theorem wb:∀ (t:T) (S:af) (cs:List Value) (a:Int),RdT S cs t->0<=a->a<=1000->bT t<=4611686018427387904->Pure Tryz.prog Bm [.agg cs.toArray,.int .i64 a] S (.int .i64 (gP t a)):=by
 refine T.ind fun k n s g V S cs a h h0 h1 hc=>?_;intro w o;obtain ⟨kv,rfl,_,_,Y,p⟩:=RdT.iff.1 h;simp only [T.name,T.kids,T.kind,T.n] at Y p ⊢;have B:=p.le;simp only [maxLen] at B;rw [show bT (T.mk k n s g)=1+bi g from rfl] at hc;refine o4.2 ?_;dsimp only[o4,a6];refine bB o fun M w' o=>?_;refine ⟨fun i m w'=>∃ (j:Nat) (c:Int),j<=g.length/\i=.int .i64 j/\m=.int .i64 c/\1<=c/\c+bi (g.drop j)<=1+bi g/\eL (g.drop j) c a=eL g 1 a/\Inv w [] [.blk M (.cells #[.int .i64 k,.int .i64 n,.string s,kv] ac)] S w',
  fun i _ _=>g.length - (intOf i).toNat,⟨0,1,aQ _,rfl,rfl,by omega,by rw [dk]; omega,rfl,o⟩,?_⟩
 intro t6 _ _ t5 _ _ _ _ _ _ _ _ _ _ _ _ _ _ _ _ _ _ _ _ _ w';rintro ⟨j,c,hj,rfl,rfl,O,U,q,o⟩;refine ⟨fun t w'=>t=.bool (decide (j<g.length) && decide (c<=a))/\Inv w [] [.blk M (.cells #[.int .i64 k,.int .i64 n,.string s,kv] ac)] S w',?_,?_⟩
 ·refine ag o 0 rfl av ar rfl ?_;refine aL p ao ?_;refine cq ?_;refine gJ (fun h=>?_) (fun h=>⟨?_,o⟩)
  ·refine fI ?_;refine fp h ⟨?_,o⟩;rw [bb (show j<g.length from by have:=of_decide_eq_true h; omega)]; rfl
  ·rw [bk (show ¬ j<g.length from by have:=of_decide_eq_false h; omega)]; rfl
 intro t _ _ _ _ _ _ _ _ _ w';rintro ⟨rfl,o⟩;refine aE (fun D=>?_) (fun D=>done o ?_)
 ·simp at D;obtain ⟨l,J⟩:=D;have Z:=nb g j l;have r:eL (g.drop j) c a=eL (g.drop (j+1)) (c+gP g[j] (a - c)) a:=by
   rw [dr l,eL,ai J]
  have C:=qN g[j] (a - c) (by omega);have hp:=de g[j];have a0:=bW (g.drop (j+1));have N:1<=gP g[j] (a - c)/\gP g[j] (a - c)<=bT g[j]:=by
   by_cases hq:bT g[j]<=a - c
   ·rw [C.1 hq]; omega
   ·have:=C.2 (by omega); omega
  refine ag o 0 rfl av ar rfl ?_;refine dx o p ao ad l (fun _ _=>RdT.length) fun G u=>?_;refine ld (by omega) ?_;refine Run.callPure oE pQ o (V _ (cr l) S G (a - c) u (by omega) (by omega) (by omega)) fun w' o=>?_;refine bz (by omega) ?_;refine bz (by omega) ?_;exact ⟨⟨j+1,_,l,rfl,rfl,by omega,by omega,by rw [<- q,r],o⟩,by simp [intOf]; omega⟩
 ·show Value.int .i64 c=Value.int .i64 (eL g 1 a);rw [<- q];by_cases l:j<g.length
  ·simp [l] at D;rw [dr l,eL,ah (by omega)]
  ·rw [tC (by omega),eL]

mutual
theorem F5:∀ t:T,bT t<=1+(wT t:Int)
 | .mk k n s ks=>by
  rw [show bT (T.mk k n s ks)=1+bi ks from rfl,wT];have:=DM ks;omega
theorem DM:∀ a:List T,bi a<=a.length+(wL a:Int)
 | []=>by simp [bi,wL]
 | t::a=>by
  rw [show bi (t::a)=bT t+bi a from rfl,wL,bg];have:=F5 t; have:=DM a;omega
end

theorem jR {t:T} {S:af} {cs:List Value} (h:RdT S cs t) (hc:bT t<=4611686018427387904):Pure Tryz.prog vX [.agg cs.toArray] S (.bool (cD t)):=by
 intro w a;have i:=h.length;refine lp.2 ?_;dsimp only[lp,aG];refine bB a fun j w' a=>?_;refine au a 0 ad rfl (by simpa [Value.cells] using i) ?_;refine Run.callPure n5 nV a (wM t S cs 30 h (by omega) (by omega)) fun w' a=>?_;refine gJ (fun g=>?_) (fun g=>done a ?_)
 ·refine au a 0 ad rfl (by simpa [Value.cells] using i) ?_;refine Run.callPure oE pQ a (wb t S cs 120 h (by omega) (by omega) hc) fun w' a=>?_;refine fI ?_;refine fp g (done a ?_);rw [cD,g,FP]; rfl
 ·rw [cD,g]; rfl
end
section
open Go Go.RowKit
attribute [local irreducible] Run CondV aw aI

def cE {α σ:Type} (step:σ->α->Bool × σ):σ->List α->Nat->Int × σ
 | st,[],_=>(-1,st)
 | st,x::xs,k=>if (step st x).1 then ((k:Int),(step st x).2) else cE step (step st x).2 xs (k+1)
def ol {α σ:Type} (step:σ->α->Bool × σ):σ->List α->Bool × σ
 | st,[]=>(false,st)
 | st,x::xs=>if (step st x).1 then (true,(step st x).2) else ol step (step st x).2 xs
theorem ky {α σ:Type} (step:σ->α->Bool × σ):∀ (xs:List α) (st:σ) (k:Nat),decide (0<=(cE step st xs k).1)=(ol step st xs).1/\(cE step st xs k).2=(ol step st xs).2
 | [],st,k=>by simp [cE,ol]
 | x::xs,st,k=>by
  by_cases h:(step st x).1=true
  ·simp [cE,ol,h]
  ·simpa [cE,ol,h] using ky step xs (step st x).2 (k+1)
theorem md {α:Type} (p:α->Bool):∀ xs:List α,ol (σ:=Unit) (fun _ x=>(p x,())) () xs=(xs.any p,())
 | []=>rfl
 | x::xs=>by
  simp only [ol,dS];cases h:p x with
  | true=>rfl
  | false=>rw [md p xs]; rfl
abbrev fv (f:FuncId) (cap:List Value):Value:=.func (.func f) #[] cap.toArray
section
variable {P:Program} {w w0:World} {X:List Nat} {A I:List Item} {S:af} {K:Value->World->Prop}
theorem EW {P:Program} {f:FuncId} {fn:Func} {cap args:List Value} {w:World} (hf:P.funcs[f]?=some fn) (hn:(fn.name == "runtime.NumGoroutine" || fn.body.isNone)=false) :
  (dX (fv f cap) args).run P w=.ok (.enter f (args++cap).toArray) w:=by
 simp only [El] at hn
 have a:¬ fn.name = "runtime.NumGoroutine" := by simpa using hn.1
 have g:¬ fn.body=none:=fun e=>by rw [e] at hn; simp at hn
 simp [dX,Deferred.ofValue,invoke,callFunc,hf,a,g]
theorem Run.callV {f:FuncId} {fn:Func} {cap args:List Value} {Post:Value->List Item->af->Prop}
  (hf:P.funcs[f]?=some fn) (hn:(fn.name == "runtime.NumGoroutine" || fn.body.isNone)=false) (h:Inv w0 X (A++I) S w) (hc:Tri P f (args++cap) I S Post)
  (hk:∀ v I' S' w',Post v I' S'->Sle S S'->Inv w0 X (A++I') S' w'->K v w'):Run P (dX (fv f cap) args) w K:=by
 unfold Run;rw [EW hf hn];refine (hc w (h.sub (fF A I)).begin).mono ?_;rintro e w' ⟨v,I',S',rfl,g,a,i⟩;exact hk v I' S' w' i a.1 (Inv.step h g a.2)
end
structure Cb (P:Program) (f:FuncId) (fn:Func) {α σ:Type} (cap:List Value) (S:af) (It:σ->List Item) (ok:σ->Prop) (step:σ->α->Bool × σ) (R:Value->α->Prop) (xs:List α):Prop where
 hf:P.funcs[f]?=some fn
 hn:(fn.name == "runtime.NumGoroutine" || fn.body.isNone)=false
 keep:∀ st x,x∈xs->ok st->(step st x).1=false->ok (step st x).2
 call:∀ st x v,x∈xs->ok st->R v x->Tri P f (v::cap) (It st) S fun r I' S'=>r=.bool (step st x).1/\I'=It (step st x).2/\S'=S
theorem Cb.pure {P:Program} {f:FuncId} {fn:Func} {α:Type} {cap:List Value} {S:af} {p:α->Bool} {R:Value->α->Prop} {xs:List α} (L:List Item) (hf:P.funcs[f]?=some fn) (hn:(fn.name == "runtime.NumGoroutine" || fn.body.isNone)=false)
  (h:∀ x v,x∈xs->R v x->Tri P f (v::cap) L S fun r I' S'=>r=.bool (p x)/\I'=L/\S'=S):Cb P f fn cap S (fun _:Unit=>L) (fun _=>True) (fun _ x=>(p x,())) R xs:=
 ⟨hf,hn,fun _ _ _ _ _=>trivial,fun _ x v a _ hR=>h x v a hR⟩

theorem oV {σ:Type} {f:FuncId} {fn:Func} {cap:List Value} {S:af} {It:σ->List Item} {ok:σ->Prop} {step:σ->T->Bool × σ} {xs:List T} {v:Value}
  (l:Cb Tryz.prog f fn cap S It ok step (fun v x=>∃ cs,v=.agg cs.toArray/\RdT S cs x) xs) (h:RdSl S 4 (RdT S) v xs) {st:σ} (u:ok st) :
  Tri Tryz.prog nD [v,fv f cap] (It st) S fun r I' S'=>r=.int .i64 (cE step st xs 0).1/\I'=It (cE step st xs 0).2/\S'=S:=by
 intro w o;have q:=h.le;simp only [maxLen] at q;refine gV.2 ?_;dsimp only[gV,a6];refine aL h ao ?_;refine ⟨fun i w'=>∃ (k:Nat) (g:σ),k<=xs.length/\i=.int .i64 k/\ok g/\cE step g (xs.drop k) k=cE step st xs 0/\Inv w (bF (It st)) (It g) S w',fun i _=>xs.length - (intOf i).toNat,
  ⟨0,st,aQ _,rfl,u,rfl,o⟩,?_⟩
 intro G _ _ _ _ _ _ _ _ _ _ _ _ w';rintro ⟨k,g,hk,rfl,p,j,o⟩;refine cq ?_;refine aR (fun B=>?_) (fun B=>?_)
 ·have m:k<xs.length:=by omega
  have D:=cr m;have a:cE step g (xs.drop k) k=if (step g xs[k]).1 then ((k:Int),(step g xs[k]).2) else cE step (step g xs[k]).2 (xs.drop (k+1)) (k+1):=by
   rw [dr m,cE]
  refine dx o h ao ad m (fun _ _=>RdT.length) fun cs C=>?_;refine Run.callV (A:=[]) (args:=[.agg cs.toArray]) l.hf l.hn (by simpa using o) (l.call g _ _ D p ⟨cs,rfl,C⟩) fun J I' S' w'=>?_;rintro ⟨rfl,rfl,rfl⟩ _ o;refine aE (fun t=>?_) (fun t=>?_)
  ·rw [ai t] at a;refine ⟨_,_,_,rfl,by simpa using o,Ext.refl _ _ _,?_,?_,rfl⟩
   ·rw [<- j,a]
   ·rw [<- j,a]
  ·refine bz (by omega) ?_;rw [t] at a;refine ⟨⟨k+1,_,m,rfl,l.keep g _ D p t,?_,by simpa using o⟩,by simp [intOf]; omega⟩;rw [<- j,a];rfl
 ·have:k=xs.length:=by omega
  subst this;rw [dV,cE] at j;exact ⟨_,_,_,rfl,o,Ext.refl _ _ _,by rw [<- j],by rw [<- j],rfl⟩
theorem gz {σ:Type} {f:FuncId} {fn:Func} {cap:List Value} {S:af} {It:σ->List Item} {ok:σ->Prop} {step:σ->T->Bool × σ} {xs:List T} {v:Value}
  (a:Cb Tryz.prog f fn cap S It ok step (fun v x=>∃ cs,v=.agg cs.toArray/\RdT S cs x) xs) (h:RdSl S 4 (RdT S) v xs) {st:σ} (g:ok st) :
  Tri Tryz.prog kV [v,fv f cap] (It st) S fun r I' S'=>r=.bool (ol step st xs).1/\I'=It (ol step st xs).2/\S'=S:=by
 intro w i;refine fT.2 ?_;dsimp only[fT,a6];refine Run.call (A:=[]) mr mp (by simpa using i) (oV a h g) fun l I' S' w'=>?_;rintro ⟨rfl,rfl,rfl⟩ _ i;refine jI ?_;have j:=ky step xs st 0;exact ⟨_,_,_,rfl,by simpa using i,Ext.refl _ _ _,by rw [j.1],by rw [j.2],rfl⟩
end
section
open Go Go.RowKit
attribute [local irreducible] Run CondV aw aI

theorem kz (n low a:Int) (S:af):Pure Tryz.prog DX [.int .i64 n,.int .i64 low,.int .i64 a] S (.bool (decide (low<=n) && decide (n<=a))):=by
 intro w g;refine rS.2 ?_;dsimp only[rS,gW];refine fI ?_;refine gJ (fun h=>?_) (fun h=>done g (by rw [h]; rfl));refine fI ?_;exact fp h (done g (by rw [h]; rfl))
theorem kQ (s:ByteArray) (p:s.size<=maxLen) (S:af):Pure Tryz.prog wa [.string s] S (.bool (i4 s)):=by
 intro w l;simp only [maxLen] at p;refine l7.2 ?_;dsimp only[l7,aG];refine il aD ?_;refine ⟨fun i w'=>∃ k:Nat,k<=s.size/\i=.int .i64 k/\(s.data.toList.drop k).all lR=lj s/\Inv w [] [] S w',fun i _=>s.size - (intOf i).toNat,⟨0,aQ _,rfl,rfl,l⟩,?_⟩;intro r _ _ _ _ _ _ _ _ _ _ _ _ _ _ _ w';rintro ⟨k,hk,rfl,g,l⟩;refine cq ?_;refine aR (fun m=>?_) (fun m=>?_)
 ·have j:k<s.size:=by omega
  have a:=Bn lR s.data.toList k (by rw [jS]; exact j);rw [Cq s k j] at a;refine ⟨fun t w'=>t=.bool (!lR s[k])/\Inv w [] [] S w',?_,?_⟩
  ·refine iw aD j ?_;refine cq ?_;refine yA (fun h=>⟨?_,l⟩) (fun h=>?_)
   ·have h:=of_decide_eq_true h;rw [lR,bk (show ¬ 97<=s[k].toNat by omega)]; rfl
   ·refine iw aD j ?_;refine eD ?_;refine sO h ⟨?_,l⟩;have h:=of_decide_eq_false h;rw [lR,bb (show 97<=s[k].toNat by omega),dL];by_cases o:s[k].toNat<=122
    ·rw [bb o,bk (by omega)]; rfl
    ·rw [bk o,bb (by omega)]; rfl
  intro t _ _ _ _ _ _ _ _ _ w';rintro ⟨rfl,l⟩;refine aE (fun h=>done l ?_) (fun h=>?_)
  ·simp at h;rw [i4,<- g,a,h]; rfl
  ·simp at h;refine bz (by omega) ?_;refine ⟨⟨k+1,j,rfl,by rw [<- g,a,h]; rfl,l⟩,by simp [intOf]; omega⟩
 ·have:k=s.size:=by omega
  subst this;have q:lj s=true:=by rw [<- g,<- jS,dV]; rfl
  refine il aD ?_;refine Run.callPure lP lS l (kz _ _ _ S) fun w' l=>done l ?_;rw [i4,q,dL]
  congr 1
  rw [Gq];simp;omega
theorem wj (S:af):Tri Tryz.prog Bc [] [] S (xn S):=by
 intro w g;refine pj.2 ?_;dsimp only[pj,mB];refine l0 (v:=fun b=>.slice (some ⟨b,0,none⟩) 15 15) (o:=.cells qb eO) g (by kernel_rfl) fun b w' g=>?_;have a:w.heap.size<=b:=by
  rcases g.new b (by simp [bF,Item.foot]) with h|h
  ·simp [bF] at h
  ·exact h
 obtain ⟨j,i⟩:=Inv.publishLast (L:=[]) g;exact ⟨_,_,_,rfl,j,BK a i,rfl,i,AG (by simp [jn]; rfl)⟩
theorem na (s:ByteArray) {xs:List ByteArray} {S:af} {v:Value} (h:RdSl S 1 ou v xs) :
  Pure Tryz.prog qX [v,.string s] S (.int .i64 (cE (σ:=Unit) (fun _ x=>(decide (x=s),())) () xs 0).1):=by
 intro w j;have l:=h.le;simp only [maxLen] at l;refine i3.2 ?_;dsimp only[i3,a6];refine aL h ci ?_;refine ⟨fun i w'=>∃ k:Nat,k<=xs.length/\i=.int .i64 k/\cE (σ:=Unit) (fun _ x=>(decide (x=s),())) () (xs.drop k) k=cE (σ:=Unit) (fun _ x=>(decide (x=s),())) () xs 0/\Inv w [] [] S w',
  fun i _=>xs.length - (intOf i).toNat,⟨0,aQ _,rfl,rfl,j⟩,?_⟩
 intro q _ _ _ _ _ _ _ _ _ _ _ _ w';rintro ⟨k,hk,rfl,a,j⟩;refine cq ?_;refine aR (fun m=>?_) (fun m=>?_)
 ·have g:k<xs.length:=by omega
  rw [dr g,cE] at a;refine i7 j h ci aO g (fun cs o=>o) ?_;refine bU ?_;refine aR (fun p=>done j ?_) (fun p=>?_)
  ·rw [<- a,ai (by simpa using p.symm)]
  ·refine bz (by omega) ?_;rw [ah (by simpa using fun e=>p e.symm)] at a;exact ⟨⟨k+1,g,rfl,a,j⟩,by simp [intOf]; omega⟩
 ·have:k=xs.length:=by omega
  subst this;rw [dV,cE] at a;exact done j (by rw [<- a])
theorem kW (s:ByteArray) {xs:List ByteArray} {S:af} {v:Value} (h:RdSl S 1 ou v xs) :
  Pure Tryz.prog mv [v,.string s] S (.bool (xs.any fun x=>decide (x=s))):=by
 intro w a;refine gy.2 ?_;dsimp only[gy,a6];refine Run.callPure pc oP a (na s h) fun w' a=>?_;refine jI (done a ?_);rw [(ky _ xs () 0).1,md]
theorem qW (s:ByteArray) (i:s.size<=maxLen) (S:af):Pure Tryz.prog wv [.string s] S (.bool (gE s)):=by
 intro w a;refine lV.2 ?_;dsimp only[lV,aG];refine Run.callPure lX lk a (kQ s i S) fun w' a=>?_;refine yA (fun h=>done a ?_) (fun h=>?_)
 ·rw [gE,h]; rfl
 ·refine Run.call0 yr yq a (wj S) fun l I' S' w'=>?_;rintro ⟨rfl,_,j⟩ g a;refine Run.callPure lg lC a (kW s j) fun w' a=>?_;refine sO h (rt a g ?_);rw [gE,h]; rfl

abbrev gO (b:Nat) (c:Int):Item:=.blk b (.cells #[.int .i64 c] ce)
abbrev oJ (bc:Nat) (S:af) (r:Bool × Int):Value->List Item->af->Prop:=fun v I' S'=>v=.bool r.1/\I'=[gO bc r.2]/\S'=S
theorem Cp:∀ (t:T) (a c:Int),c<=120->(d6 t a c).1=true->c<(d6 t a c).2/\(d6 t a c).2<=120:=by
 intro t a c hc h;have:=uD t a c;rw [this.2 h];have g:=this.1;rw [h] at g;have i:=g.symm;simp at i;have:=de t;omega
theorem xo (a:Int):∀ (g:List T) (c:Int),ol (fun c t=>(!(d6 t a c).1,(d6 t a c).2)) c g=(!(iC g a c).1,(iC g a c).2)
 | [],c=>by simp [ol,iC]
 | t::ts,c=>by
  by_cases h:(d6 t a c).1=true
  ·simp [ol,iC,h,xo a ts]
  ·simp [ol,iC,h]

theorem CH:∀ (t:T) (S:af) (cs:List Value) (a c:Int) (i:Nat),RdT S cs t->0<=a->a<=31->0<=c->c<=120->
  Tri Tryz.prog GS [.agg cs.toArray,.int .i64 a,.pointer (some ⟨i,0,none⟩)] [gO i c] S (oJ i S (d6 t a c)):=by
 refine T.ind fun k n s m ih S cs a c i h a3 a4 a5 a6=>?_;intro w g;obtain ⟨kv,rfl,_,_,hs,C⟩:=RdT.iff.1 h;simp only [T.name,T.kids,T.kind,T.n] at hs C ⊢;have o:∀ {L:List Item} {w':World} {v:Value} (r:Bool × Int),Inv w (bF [gO i c]) (gO i r.2::L) S w'->v=.bool r.1->r=d6 (.mk k n s m) a c->
   ∃ V I' S',Ending.returned v=.returned V/\Inv w (bF [gO i c]) I' S' w'/\Ext w.heap.size (bF [gO i c]) S S'/\oJ i S (d6 (.mk k n s m) a c) V I' S':=by
  intro L w' v r h1 p q;subst q;exact ⟨_,_,_,rfl,h1.pick [true],Ext.refl _ _ _,p,rfl,rfl⟩
 refine wS.2 ?_;dsimp only[wS,gW];refine bB g fun b3 w' g=>?_;refine bB g fun O w' g=>?_;refine bB g fun U w' g=>?_;refine aJ g 3 yW rfl rfl ?_;refine bj ?_;refine aJ g 0 az rfl rfl ?_;refine bz (by omega) ?_;refine bj ?_;refine di g 0 (n:=1) rfl (by rw [az]; rfl) rfl (u6 rfl) (by simp [Value.cells]; rfl) fun w' g=>?_;refine ⟨fun t w'=>t=.bool (decide (120<c+1 ∨ 30<a))/\Inv w (bF [gO i c]) [gO i (c+1),.blk b3 (.cells #[.int .i64 k,.int .i64 n,.string s,kv] ac),.blk O (.cells #[.int .i64 a] ce),.blk U (.cells #[.pointer (some ⟨i,0,none⟩)] j0)] S w',?_,?_⟩
 ·refine aJ g 3 yW rfl rfl ?_;refine bj ?_;refine aJ g 0 az rfl rfl ?_;refine eD ?_;refine yA (fun h=>⟨?_,g⟩) (fun h=>?_)
  ·have h:=of_decide_eq_true h;rw [bb (show 120<c+1 ∨ 30<a from .inl h)]
  ·refine aJ g 2 az rfl rfl ?_;refine eD ?_;refine sO h ⟨?_,g⟩;have h:=of_decide_eq_false h
   congr 1
   rw [Gq];simp;omega
 intro t _ _ _ _ _ _ _ w';rintro ⟨rfl,g⟩;refine aR (fun hb=>?_) (fun hb=>?_)
 ·exact o (false,c+1) g rfl (by rw [d6,ai hb])
 have D:∀ r,(if k=1 ∨ k=2 then (dA (.mk k n s m),c+1) else if k=3 then (if dA (.mk k n s m) then iC m (a+1) (c+1) else (false,c+1)) else (false,c+1))=r->r=d6 (.mk k n s m) a c:=by
  intro r hr;rw [d6,ah hb,hr]
 refine ag g 1 rfl aV az rfl ?_;refine bo ?_;refine aR (fun hk=>?_) (fun hk=>?_)
 ·have G:dA (.mk k n s m)=(decide (0<=n) && (decide (n<=25) && (decide (s=emptyB) && decide (m.length=0)))):=by
   rw [dA]; exact ai hk
  have l:∀ {w':World} {b:Bool},Inv w (bF [gO i c]) [gO i (c+1),.blk b3 (.cells #[.int .i64 k,.int .i64 n,.string s,kv] ac),.blk O (.cells #[.int .i64 a] ce),.blk U (.cells #[.pointer (some ⟨i,0,none⟩)] j0)] S w'->
    b=dA (.mk k n s m)->∃ V I' S',Ending.returned (.bool b)=.returned V/\Inv w (bF [gO i c]) I' S' w'/\Ext w.heap.size (bF [gO i c]) S S'/\oJ i S (d6 (.mk k n s m) a c) V I' S':=
   fun g hb=>o (_,c+1) g (by rw [hb]) (D _ (ai (.inl hk)))
  refine ag g 1 rfl aM az rfl ?_;refine Run.callPure lP lS g (kz _ _ _ S) fun w' g=>?_;refine gJ (fun p=>?_) (fun p=>?_)
  ·have j:=p;rw [bJ] at j;refine ag g 1 rfl aW aO rfl ?_;refine bU ?_;refine fp p ?_;refine gJ (fun q=>?_) (fun q=>l g ?_)
   ·refine ag g 1 rfl av ar rfl ?_;refine aL C ao ?_;refine bo ?_;refine fp q (l g ?_);rw [G,j.1,j.2,show decide (s=emptyB)=true from q];simp
   ·rw [G,j.1,j.2,show decide (s=emptyB)=false from q]; rfl
  ·refine kF (l g ?_);rw [G,<- Bool.and_assoc,p]; rfl
 refine bo ?_;refine aR (fun u=>?_) (fun u=>?_)
 ·have G:dA (.mk k n s m)=(decide (-999<=n) && (decide (n<=999) && (decide (s=emptyB) && decide (m.length=0)))):=by
   rw [dA]; exact (ah hk).trans (ai u)
  have l:∀ {w':World} {b:Bool},Inv w (bF [gO i c]) [gO i (c+1),.blk b3 (.cells #[.int .i64 k,.int .i64 n,.string s,kv] ac),.blk O (.cells #[.int .i64 a] ce),.blk U (.cells #[.pointer (some ⟨i,0,none⟩)] j0)] S w'->
    b=dA (.mk k n s m)->∃ V I' S',Ending.returned (.bool b)=.returned V/\Inv w (bF [gO i c]) I' S' w'/\Ext w.heap.size (bF [gO i c]) S S'/\oJ i S (d6 (.mk k n s m) a c) V I' S':=
   fun g hb=>o (_,c+1) g (by rw [hb]) (D _ (ai (.inr u)))
  refine ag g 1 rfl aM az rfl ?_;refine Run.callPure lP lS g (kz _ _ _ S) fun w' g=>?_;refine gJ (fun p=>?_) (fun p=>?_)
  ·have j:=p;rw [bJ] at j;refine ag g 1 rfl aW aO rfl ?_;refine bU ?_;refine fp p ?_;refine gJ (fun q=>?_) (fun q=>l g ?_)
   ·refine ag g 1 rfl av ar rfl ?_;refine aL C ao ?_;refine bo ?_;refine fp q (l g ?_);rw [G,j.1,j.2,show decide (s=emptyB)=true from q];simp
   ·rw [G,j.1,j.2,show decide (s=emptyB)=false from q]; rfl
  ·refine kF (l g ?_);rw [G,<- Bool.and_assoc,p]; rfl
 refine bo ?_;have J:¬ (k=1 ∨ k=2):=fun h=>h.elim hk u;refine aR (fun B=>?_) (fun B=>?_)
 ·have G:dA (.mk k n s m)=(decide (n=0) && (gE s && decide (m.length<=4))):=by
   rw [dA]; exact (ah hk).trans ((ah u).trans (ai B))
  refine ⟨fun t w'=>t=.bool (!dA (.mk k n s m))/\Inv w (bF [gO i c]) [gO i (c+1),.blk b3 (.cells #[.int .i64 k,.int .i64 n,.string s,kv] ac),.blk O (.cells #[.int .i64 a] ce),.blk U (.cells #[.pointer (some ⟨i,0,none⟩)] j0)] S w',?_,?_⟩
  ·refine ag g 1 rfl aM az rfl ?_;refine BU ?_;refine yA (fun h1=>?_) (fun h1=>?_)
   ·have Z:decide (n=0)=false:=by simpa using h1
    refine JR ⟨?_,g⟩;rw [G,Z]; rfl
   ·have Z:decide (n=0)=true:=by simpa using h1
    refine ag g 1 rfl aW aO rfl ?_;refine Run.callPure uW uv g (qW s hs S) fun w' g=>?_;refine dD ?_;refine sO h1 ?_;refine yA (fun p=>⟨?_,g⟩) (fun p=>?_)
    ·have j:gE s=false:=by simpa using p
     rw [G,Z,j]; rfl
    ·have j:gE s=true:=by simpa using p
     refine ag g 1 rfl av ar rfl ?_;refine aL C ao ?_;refine eD ?_;refine sO p ⟨?_,g⟩;rw [G,Z,j,dL,dL]
     congr 1
     rw [Gq];simp;omega
  intro t _ _ _ _ _ _ _ _ _ _ _ _ _ _ w';rintro ⟨rfl,g⟩;refine aE (fun a0=>?_) (fun a0=>?_)
  ·have N:dA (.mk k n s m)=false:=by simpa using a0
   exact o (false,c+1) g rfl (D _ (by rw [ah J,ai B,N]; rfl))
  ·have N:dA (.mk k n s m)=true:=by simpa using a0
   refine ag g 1 rfl av ar rfl ?_;refine uZ ?_;have a2:Cb Tryz.prog CF Tryz.f139 [.pointer (some ⟨O,0,none⟩),.pointer (some ⟨U,0,none⟩)] S
     (fun c:Int=>[gO i c,.blk O (.cells #[.int .i64 a] ce),.blk U (.cells #[.pointer (some ⟨i,0,none⟩)] j0)]) (fun c=>0<=c/\c<=120)
     (fun c t=>(!(d6 t (a+1) c).1,(d6 t (a+1) c).2)) (fun v x=>∃ cs,v=.agg cs.toArray/\RdT S cs x) m:=by
    refine ⟨zW,BE,fun st x _ Y hf=>?_,fun st x v hx Y=>?_⟩
    ·have:=Cp x (a+1) st Y.2 (by simpa using hf);omega
    ·rintro ⟨cs,rfl,a1⟩ w1 g;have hl:=a1.length;refine sM.2 ?_;dsimp only[sM,gW];refine bB g fun b w' g=>?_;refine au g 3 ad rfl (by simpa [Value.cells] using hl) ?_;refine aJ g 1 az rfl rfl ?_;refine bz (by omega) ?_;refine aJ g 2 yW rfl rfl ?_;have g:=g.perm (M:=[.blk O (.cells #[.int .i64 a] ce),.blk U (.cells #[.pointer (some ⟨i,0,none⟩)] j0),.blk b (.cells (Value.agg cs.toArray).cells ac)]++[gO i st])
      (dy (l₁:=[_,_,_]) (l₂:=[gO i st]))
     refine Run.call xe xp g (ih x hx S cs (a+1) st i a1 (by omega) (by omega) Y.1 Y.2) fun V I' S' w'=>?_;rintro ⟨rfl,rfl,rfl⟩ _ g;refine dD ?_;have g:=(g.perm (M:=[gO i (d6 x (a+1) st).2]++[.blk O (.cells #[.int .i64 a] ce),.blk U (.cells #[.pointer (some ⟨i,0,none⟩)] j0),.blk b (.cells (Value.agg cs.toArray).cells ac)])
      dy).pick [true,true,true,false]
     exact ⟨_,_,_,rfl,g,Ext.refl _ _ _,rfl,rfl,rfl⟩
   have g:=g.perm (M:=[.blk b3 (.cells #[.int .i64 k,.int .i64 n,.string s,kv] ac)]++[gO i (c+1),.blk O (.cells #[.int .i64 a] ce),.blk U (.cells #[.pointer (some ⟨i,0,none⟩)] j0)]) (List.Perm.swap _ _ _);refine Run.call fM fQ g (gz a2 C ⟨by omega,by omega⟩) fun V I' S' w'=>?_;rintro ⟨rfl,rfl,rfl⟩ _ g;refine dD ?_;rw [xo] at g ⊢;have g:=g.perm (M:=[gO i (iC m (a+1) (c+1)).2,.blk b3 (.cells #[.int .i64 k,.int .i64 n,.string s,kv] ac),.blk O (.cells #[.int .i64 a] ce),.blk U (.cells #[.pointer (some ⟨i,0,none⟩)] j0)]) (List.Perm.swap _ _ _);refine o (iC m (a+1) (c+1)) g (by simp) (D _ (by rw [ah J,ai B,N]; rfl))
 ·exact o (false,c+1) g rfl (D _ (by rw [ah J,ah B]))

theorem jp {t:T} {S:af} {cs:List Value} (h:RdT S cs t):Pure Tryz.prog wm [.agg cs.toArray] S (.bool (cD t)):=by
 intro w a;have i:=h.length;refine lQ.2 ?_;dsimp only[lQ,aG];refine bB a fun j w' a=>?_;refine aF a qr fun g w' a=>?_;refine di a 1 (n:=1) rfl (by rw [az]; rfl) rfl (u6 rfl) (by simp [Value.cells]; rfl) fun w' a=>?_;refine au a 0 ad rfl (by simpa [Value.cells] using i) ?_;refine Run.call (A:=[_]) (I:=[gO g 0]) xe xp a (CH t S cs 1 0 g h (by omega) (by omega) (by omega) (by omega)) fun l I' S' w'=>?_;rintro ⟨rfl,rfl,rfl⟩ _ a;exact done a (by rw [Cs])
end
section
open Go Go.RowKit
attribute [local irreducible] Run CondV aw aI

def vZ:List ByteArray:=[⟨#[61]⟩,⟨#[92,61]⟩,⟨#[61,61]⟩,⟨#[60]⟩,⟨#[62]⟩,⟨#[61,60]⟩,⟨#[62,61]⟩,⟨#[61,58,61]⟩,⟨#[105,115]⟩]
def ny:List ByteArray:=[⟨#[116,114,117,101]⟩,⟨#[102,97,105,108]⟩]
def ug:List ByteArray:=[⟨#[118,97,114]⟩,⟨#[110,111,110,118,97,114]⟩,⟨#[97,116,111,109]⟩,⟨#[105,110,116]⟩]
def CL:List ByteArray:=[⟨#[43]⟩,⟨#[45]⟩]
def vF:List ByteArray:=[⟨#[42]⟩,⟨#[47,47]⟩,⟨#[109,111,100]⟩]
def er (s:ByteArray) (l:List ByteArray):Bool:=l.any fun x=>decide (s=x)
def eM (s:ByteArray) (n:Int):Bool:=
 if er s vZ=true then decide (n=2)
 else if er s ny=true then decide (n=0)
 else if er s ug=true then decide (n=1)
 else if s=⟨#[97,114,103]⟩ then decide (n=3)
 else false
def bX (s:ByteArray):Int:=if er s vZ=true then 3 else if er s CL=true then 2 else if er s vF=true then 1 else 0
def qA (t:T):Bool:=decide (t.kind=3) && (decide (t.name=⟨#[33]⟩) && decide (t.kids.length=0))
def F3 (t:T):Bool:=decide (t.kind=3) && decide (t.kids.length=0)
def dM (t:T):Bool:=decide (t.kind=3) && eM t.name t.kids.length
def fe (t:T):Bool:=decide (t.kind=3) && (i4 t.name && (!eM t.name t.kids.length && decide (bX t.name=0)))
def dF (t:T):Bool:=cD t && (qA t || (fe t || dM t))
def a4 (c:C):Bool:=decide (c.body.length<=6) && (c.body.all dF && (cD c.head && fe c.head))
def yF (l:List T):Bool:=decide (l.length<=6) && l.all dF
theorem FG (s:ByteArray):(!decide (0<bX s))=decide (bX s=0):=by
 unfold bX;split
 ·rfl
 ·split
  ·rfl
  ·split <;> rfl

theorem gl (s:ByteArray) (n:Int) (S:af):Pure Tryz.prog wy [.string s,.int .i64 n] S (.bool (eM s n)):=by
 intro w i;refine ly.2 ?_;dsimp only[ly,a6];obtain ⟨q,a⟩:∃ q,er s vZ=q:=⟨_,rfl⟩
 have g:=a;refine ⟨fun t w'=>t=.bool q/\Inv w [] [] S w',?_,?_⟩
 ·unfold er vZ at a
  iterate 8
   refine bU ?_;refine aE (fun h=>⟨by rw [dS,h] at a; rw [h,<- a]; rfl,i⟩) (fun h=>?_);rw [dS,h,fo] at a
  refine bU ⟨?_,i⟩;rw [<- a]; simp
 intro t _ _ _ _ _ _ _ _ _ w';rintro ⟨rfl,i⟩;refine aE (fun h=>?_) (fun h=>?_)
 ·exact bo (done i (by rw [eM,ai (g.trans h)]))
 have j:eM s n=if er s ny=true then decide (n=0) else if er s ug=true then decide (n=1) else if s=⟨#[97,114,103]⟩ then decide (n=3) else false:=by
  rw [eM,ah (by rw [g,h]; decide)]
 clear a g h;obtain ⟨q,a⟩:∃ q,er s ny=q:=⟨_,rfl⟩
 have g:=a;refine ⟨fun t w'=>t=.bool q/\Inv w [] [] S w',?_,?_⟩
 ·unfold er ny at a;refine bU ?_;refine aE (fun h=>⟨by rw [dS,h] at a; rw [h,<- a]; rfl,i⟩) (fun h=>?_);rw [dS,h,fo] at a;refine bU ⟨?_,i⟩;rw [<- a]; simp
 intro _ t _ w';rintro ⟨rfl,i⟩;refine aE (fun h=>?_) (fun h=>?_)
 ·exact bo (done i (by rw [j,ai (g.trans h)]))
 rw [ah (by rw [g,h]; decide)] at j;clear a g h;obtain ⟨q,a⟩:∃ q,er s ug=q:=⟨_,rfl⟩
 have g:=a;refine ⟨fun t w'=>t=.bool q/\Inv w [] [] S w',?_,?_⟩
 ·unfold er ug at a
  iterate 3
   refine bU ?_;refine aE (fun h=>⟨by rw [dS,h] at a; rw [h,<- a]; rfl,i⟩) (fun h=>?_);rw [dS,h,fo] at a
  refine bU ⟨?_,i⟩;rw [<- a]; simp
 intro _ _ _ t _ w';rintro ⟨rfl,i⟩;refine aE (fun h=>?_) (fun h=>?_)
 ·exact bo (done i (by rw [j,ai (g.trans h)]))
 rw [ah (by rw [g,h]; decide)] at j;refine bU ?_;refine aR (fun h=>?_) (fun h=>?_)
 ·exact bo (done i (by rw [j,ai h]))
 ·exact done i (by rw [j,ah h])
theorem p6 (s:ByteArray) (n:Int) (S:af):Pure Tryz.prog v4 [.string s,.int .i64 n] S (.bool (eM s n)):=by
 intro w i;refine l5.2 ?_;dsimp only[l5,a6];obtain ⟨q,a⟩:∃ q,er s vZ=q:=⟨_,rfl⟩
 have g:=a;refine ⟨fun t w'=>t=.bool q/\Inv w [] [] S w',?_,?_⟩
 ·unfold er vZ at a
  iterate 8
   refine bU ?_;refine aE (fun h=>⟨by rw [dS,h] at a; rw [h,<- a]; rfl,i⟩) (fun h=>?_);rw [dS,h,fo] at a
  refine bU ⟨?_,i⟩;rw [<- a]; simp
 intro t _ _ _ _ _ _ _ _ _ w';rintro ⟨rfl,i⟩;refine aE (fun h=>?_) (fun h=>?_)
 ·exact bo (done i (by rw [eM,ai (g.trans h)]))
 have j:eM s n=if er s ny=true then decide (n=0) else if er s ug=true then decide (n=1) else if s=⟨#[97,114,103]⟩ then decide (n=3) else false:=by
  rw [eM,ah (by rw [g,h]; decide)]
 clear a g h;obtain ⟨q,a⟩:∃ q,er s ny=q:=⟨_,rfl⟩
 have g:=a;refine ⟨fun t w'=>t=.bool q/\Inv w [] [] S w',?_,?_⟩
 ·unfold er ny at a;refine bU ?_;refine aE (fun h=>⟨by rw [dS,h] at a; rw [h,<- a]; rfl,i⟩) (fun h=>?_);rw [dS,h,fo] at a;refine bU ⟨?_,i⟩;rw [<- a]; simp
 intro _ t _ w';rintro ⟨rfl,i⟩;refine aE (fun h=>?_) (fun h=>?_)
 ·exact bo (done i (by rw [j,ai (g.trans h)]))
 rw [ah (by rw [g,h]; decide)] at j;clear a g h;obtain ⟨q,a⟩:∃ q,er s ug=q:=⟨_,rfl⟩
 have g:=a;refine ⟨fun t w'=>t=.bool q/\Inv w [] [] S w',?_,?_⟩
 ·unfold er ug at a
  iterate 3
   refine bU ?_;refine aE (fun h=>⟨by rw [dS,h] at a; rw [h,<- a]; rfl,i⟩) (fun h=>?_);rw [dS,h,fo] at a
  refine bU ⟨?_,i⟩;rw [<- a]; simp
 intro _ _ _ t _ w';rintro ⟨rfl,i⟩;refine aE (fun h=>?_) (fun h=>?_)
 ·exact bo (done i (by rw [j,ai (g.trans h)]))
 rw [ah (by rw [g,h]; decide)] at j;refine bU ?_;refine aR (fun h=>?_) (fun h=>?_)
 ·exact bo (done i (by rw [j,ai h]))
 ·exact done i (by rw [j,ah h])

theorem dn (s:ByteArray) (S:af):Pure Tryz.prog Cl [.string s] S (.int .i64 (bX s)):=by
 intro w i;refine nO.2 ?_;dsimp only[nO,aG];obtain ⟨q,a⟩:∃ q,er s vZ=q:=⟨_,rfl⟩
 have g:=a;refine ⟨fun t w'=>t=.bool q/\Inv w [] [] S w',?_,?_⟩
 ·unfold er vZ at a
  iterate 8
   refine bU ?_;refine aE (fun h=>⟨by rw [dS,h] at a; rw [h,<- a]; rfl,i⟩) (fun h=>?_);rw [dS,h,fo] at a
  refine bU ⟨?_,i⟩;rw [<- a]; simp
 intro _ _ _ _ _ _ _ _ t _ w';rintro ⟨rfl,i⟩;refine aE (fun h=>?_) (fun h=>?_)
 ·exact done i (by rw [show bX s=3 from ai (g.trans h)] <;> rfl)
 have j:bX s=if er s CL=true then 2 else if er s vF=true then 1 else 0:=by
  rw [bX,ah (by rw [g,h]; decide)]
 clear a g h;obtain ⟨q,a⟩:∃ q,er s CL=q:=⟨_,rfl⟩
 have g:=a;refine ⟨fun t w'=>t=.bool q/\Inv w [] [] S w',?_,?_⟩
 ·unfold er CL at a;refine bU ?_;refine aE (fun h=>⟨by rw [dS,h] at a; rw [h,<- a]; rfl,i⟩) (fun h=>?_);rw [dS,h,fo] at a;refine bU ⟨?_,i⟩;rw [<- a]; simp
 intro _ t _ w';rintro ⟨rfl,i⟩;refine aE (fun h=>?_) (fun h=>?_)
 ·exact done i (by rw [show bX s=2 from j.trans (ai (g.trans h))] <;> rfl)
 rw [ah (by rw [g,h]; decide)] at j;clear a g h;obtain ⟨q,a⟩:∃ q,er s vF=q:=⟨_,rfl⟩
 have g:=a;refine ⟨fun t w'=>t=.bool q/\Inv w [] [] S w',?_,?_⟩
 ·unfold er vF at a
  iterate 2
   refine bU ?_;refine aE (fun h=>⟨by rw [dS,h] at a; rw [h,<- a]; rfl,i⟩) (fun h=>?_);rw [dS,h,fo] at a
  refine bU ⟨?_,i⟩;rw [<- a]; simp
 intro _ _ t _ w';rintro ⟨rfl,i⟩;refine aE (fun h=>?_) (fun h=>?_)
 ·exact done i (by rw [show bX s=1 from j.trans (ai (g.trans h))] <;> rfl)
 ·exact done i (by rw [show bX s=0 from j.trans (ah (by rw [g,h]; decide))] <;> rfl)
theorem sT (s:ByteArray) (S:af):Pure Tryz.prog BN [.string s] S (.tuple #[.int .i64 (bX s),.bool (decide (bX s=1) || decide (bX s=2))]):=by
 intro w i;refine pw.2 ?_;dsimp only[pw,aG];obtain ⟨q,a⟩:∃ q,er s vZ=q:=⟨_,rfl⟩
 have g:=a;refine ⟨fun t w'=>t=.bool q/\Inv w [] [] S w',?_,?_⟩
 ·unfold er vZ at a
  iterate 8
   refine bU ?_;refine aE (fun h=>⟨by rw [dS,h] at a; rw [h,<- a]; rfl,i⟩) (fun h=>?_);rw [dS,h,fo] at a
  refine bU ⟨?_,i⟩;rw [<- a]; simp
 intro _ _ _ _ _ _ _ _ t _ w';rintro ⟨rfl,i⟩;refine aE (fun h=>?_) (fun h=>?_)
 ·exact done i (by rw [show bX s=3 from ai (g.trans h)] <;> rfl)
 have j:bX s=if er s CL=true then 2 else if er s vF=true then 1 else 0:=by
  rw [bX,ah (by rw [g,h]; decide)]
 clear a g h;obtain ⟨q,a⟩:∃ q,er s CL=q:=⟨_,rfl⟩
 have g:=a;refine ⟨fun t w'=>t=.bool q/\Inv w [] [] S w',?_,?_⟩
 ·unfold er CL at a;refine bU ?_;refine aE (fun h=>⟨by rw [dS,h] at a; rw [h,<- a]; rfl,i⟩) (fun h=>?_);rw [dS,h,fo] at a;refine bU ⟨?_,i⟩;rw [<- a]; simp
 intro _ t _ w';rintro ⟨rfl,i⟩;refine aE (fun h=>?_) (fun h=>?_)
 ·exact done i (by rw [show bX s=2 from j.trans (ai (g.trans h))] <;> rfl)
 rw [ah (by rw [g,h]; decide)] at j;clear a g h;obtain ⟨q,a⟩:∃ q,er s vF=q:=⟨_,rfl⟩
 have g:=a;refine ⟨fun t w'=>t=.bool q/\Inv w [] [] S w',?_,?_⟩
 ·unfold er vF at a
  iterate 2
   refine bU ?_;refine aE (fun h=>⟨by rw [dS,h] at a; rw [h,<- a]; rfl,i⟩) (fun h=>?_);rw [dS,h,fo] at a
  refine bU ⟨?_,i⟩;rw [<- a]; simp
 intro _ _ t _ w';rintro ⟨rfl,i⟩;refine aE (fun h=>?_) (fun h=>?_)
 ·exact done i (by rw [show bX s=1 from j.trans (ai (g.trans h))] <;> rfl)
 ·exact done i (by rw [show bX s=0 from j.trans (ah (by rw [g,h]; decide))] <;> rfl)

theorem r2 {t:T} {S:af} {cs:List Value} (h:RdT S cs t):Pure Tryz.prog FR [.agg cs.toArray] S (.bool (qA t)):=by
 intro w a;obtain ⟨kv,rfl,_,_,j,g⟩:=RdT.iff.1 h;obtain ⟨k,n,s,i⟩:=t;simp only [T.name,T.kids,T.kind,T.n] at j g ⊢;refine vA.2 ?_;dsimp only[vA,aG];refine bB a fun l w' a=>?_;refine ag a 0 rfl aV az rfl ?_;refine bo ?_;rw [show qA (.mk k n s i)=(decide (k=3) && (decide (s=⟨#[33]⟩) && decide (i.length=0))) from rfl];cases m:decide (k=3)
 ·refine rpG ?_;exact done a rfl
 ·refine rpG ?_;refine ag a 0 rfl aW aO rfl ?_;refine bU ?_;cases o:decide (s=⟨#[33]⟩)
  ·refine rpG ?_;exact done a rfl
  ·refine rpG ?_;refine ag a 0 rfl av ar rfl ?_;refine aL g ao ?_;refine bo ?_;refine rpG ?_;exact done a (by simp)

theorem m0 {t:T} {S:af} {cs:List Value} (h:RdT S cs t):Pure Tryz.prog AN [.agg cs.toArray] S (.bool (fe t)):=by
 intro w a;obtain ⟨kv,rfl,_,_,j,g⟩:=RdT.iff.1 h;obtain ⟨k,n,s,i⟩:=t;simp only [T.name,T.kids,T.kind,T.n] at j g ⊢;refine pt.2 ?_;dsimp only[pt,aG];refine bB a fun l w' a=>?_;refine ag a 0 rfl aV az rfl ?_;refine bo ?_;rw [show fe (.mk k n s i)=(decide (k=3) && (i4 s && (!eM s i.length && decide (bX s=0)))) from rfl];cases m:decide (k=3)
 ·refine rpG ?_;exact done a rfl
 ·refine rpG ?_;refine ag a 0 rfl aW aO rfl ?_;refine Run.callPure rU sS a (oM s j S) fun w' a=>?_;cases o:i4 s
  ·refine rpG ?_;exact done a rfl
  ·refine rpG ?_;refine ag a 0 rfl aW aO rfl ?_;refine ag a 0 rfl av ar rfl ?_;refine aL g ao ?_;refine Run.callPure ik im a (gl s _ S) fun w' a=>?_;refine dD ?_;cases p:eM s i.length
   ·refine rpG ?_;refine ag a 0 rfl aW aO rfl ?_;refine Run.callPure eq ek a (dn s S) fun w' a=>?_;refine bo ?_;refine rpG ?_;exact done a rfl
   ·refine rpG ?_;exact done a rfl

theorem zC {t:T} {S:af} {cs:List Value} (h:RdT S cs t):Pure Tryz.prog CM [.agg cs.toArray] S (.bool (qA t || (fe t || dM t))):=by
 intro w a;have j:=h;obtain ⟨kv,rfl,_,_,l,g⟩:=RdT.iff.1 h;obtain ⟨k,n,s,i⟩:=t;simp only [T.name,T.kids,T.kind,T.n] at j l g ⊢;refine rT.2 ?_;dsimp only[rT,aG];refine bB a fun m w' a=>?_;refine au a 0 ad rfl rfl ?_;refine Run.callPure up vz a (r2 j) fun w' a=>?_;cases o:qA (.mk k n s i)
 ·refine rpG ?_;refine au a 0 ad rfl rfl ?_;refine Run.callPure nR oT a (m0 j) fun w' a=>?_;cases p:fe (.mk k n s i)
  ·refine rpG ?_;refine ag a 0 rfl aV az rfl ?_;refine bo ?_;rw [show dM (.mk k n s i)=(decide (k=3) && eM s i.length) from rfl];cases q:decide (k=3)
   ·refine rpG ?_;exact done a rfl
   ·refine rpG ?_;refine ag a 0 rfl aW aO rfl ?_;refine ag a 0 rfl av ar rfl ?_;refine aL g ao ?_;refine Run.callPure ik im a (gl s _ S) fun w' a=>?_;refine rpG ?_;exact done a rfl
  ·refine rpG ?_;exact done a rfl
 ·refine rpG ?_;exact done a rfl

theorem ES {t:T} (h:wT t<=1048576):bT t<=4611686018427387904:=by
 have:=F5 t;omega
theorem qG {t:T} {S:af} {cs:List Value} (h:RdT S cs t) (hc:wT t<=1048576):Pure Tryz.prog wA [.agg cs.toArray] S (.bool (dF t)):=by
 intro w a;have g:=h.length;refine lA.2 ?_;dsimp only[lA,aG];refine bB a fun i w' a=>?_;refine au a 0 ad rfl (by simpa [Value.cells] using g) ?_;refine Run.callPure lq l6 a (jR h (ES hc)) fun w' a=>?_;rw [dF];cases j:cD t
 ·refine rpG ?_;exact done a rfl
 ·refine rpG ?_;refine au a 0 ad rfl (by simpa [Value.cells] using g) ?_;refine Run.callPure AA BD a (zC h) fun w' a=>?_;refine rpG ?_;exact done a rfl


theorem Hu {a:List T} {t:T} (h:t∈a):wT t<=wL a:=by
 induction a with
 | nil=>simp at h
 | cons u i g=>
  rw [wL];rcases fm.1 h with rfl|h
  ·omega
  ·have:=g h; omega
theorem ig {c:C} {S:af} {cs:List Value} (h:RdC S cs c) (hc:wC c<=1048576):Pure Tryz.prog tf [.agg cs.toArray] S (.bool (a4 c)):=by
 intro w a;obtain ⟨hd,N,rfl,O,G⟩:=h;have u:=O;obtain ⟨kv,rfl,g1,g2,g3,g4⟩:=RdT.iff.1 O;have B:=G.le;simp only [maxLen] at B;unfold wC at hc;refine jx.2 ?_;dsimp only[jx,aG];refine bB a fun M w' a=>?_;refine ⟨fun i w'=>∃ k:Nat,k<=c.body.length/\k<=7/\i=.int .i64 k/\(∀ j (h:j<c.body.length),j<k->dF c.body[j]=true)/\Inv w [] [.blk M (.cells #[.int .i64 c.head.kind,.int .i64 c.head.n,.string c.head.name,kv,N] ae)] S w',
  fun i _=>c.body.length - (intOf i).toNat,⟨0,aQ _,by omega,rfl,fun j _ h=>by omega,a⟩,?_⟩
 intro t3 _ _ _ _ _ _ _ _ _ _ _ _ _ _ _ _ _ _ _ w';rintro ⟨k,hk,U,rfl,q,a⟩;refine ⟨fun t w'=>t=.bool (decide (k<c.body.length/\k<=6))/\Inv w [] [.blk M (.cells #[.int .i64 c.head.kind,.int .i64 c.head.n,.string c.head.name,kv,N] ae)] S w',?_,?_⟩
 ·refine ag a 0 rfl aT ar rfl ?_;refine aL G ao ?_;refine cq ?_;by_cases l:(k:Int)<c.body.length
  ·rw [bb l];refine rpG ?_;refine fI ?_;refine rpG ?_;refine ⟨?_,a⟩
   congr 1
   rw [Gq]; simp; omega
  ·rw [bk l];refine rpG ?_;exact ⟨by rw [bk (by omega)],a⟩
 intro t _ _ _ _ _ _ _ _ w';rintro ⟨rfl,a⟩;refine aR (fun l=>?_) (fun l=>?_)
 ·obtain ⟨o,a0⟩:=l;refine ag a 0 rfl aT ar rfl ?_;refine dx a G ao ad o (fun _ _=>RdT.length) fun Y r=>?_;have a1:=Hu (cr o);refine Run.callPure uK u4 a (qG r (by omega)) fun w' a=>?_;refine dD ?_;refine aE (fun J=>done a ?_) (fun J=>?_)
  ·have p:dF c.body[k]=false:=by simpa using J
   have:c.body.all dF=false:=by
    rw [<- Bool.not_eq_true,gR];intro g;rw [g _ (cr o)] at p;cases p
   rw [a4,this];simp
  ·have p:dF c.body[k]=true:=by simpa using J
   refine bz (by omega) ?_;refine ⟨⟨k+1,o,by omega,rfl,fun j m Z=>?_,a⟩,by simp [intOf]; omega⟩;by_cases e:j=k
   ·subst e; exact p
   ·exact q j m (by omega)
 ·refine ag a 0 rfl aT ar rfl ?_;refine aL G ao ?_;refine fI ?_;rw [a4];by_cases D:c.body.length<=6
  ·have g:c.body.all dF=true:=by
    rw [gR];intro x V;obtain ⟨j,m,rfl⟩:=List.getElem_of_mem V;exact q j m (by omega)
   rw [bb (show (c.body.length:Int)<=6 by omega),bb D,g];refine rpG ?_;refine ay cn ?_;refine ew a 0 [.int .i64 c.head.kind,.int .i64 c.head.n,.string c.head.name,kv] ad rfl rfl ?_ ?_
   ·intro j v m
    match j with
    | 0|1|2|3=>exact m
    | j+4=>simp at m
   refine Run.callPure lq l6 a (jR u (ES (by omega))) fun w' a=>?_;cases hv:cD c.head
   ·refine rpG ?_;exact done a rfl
   ·refine rpG ?_;refine ay cn ?_;refine ew a 0 [.int .i64 c.head.kind,.int .i64 c.head.n,.string c.head.name,kv] ad rfl rfl ?_ ?_
    ·intro j v m
     match j with
     | 0|1|2|3=>exact m
     | j+4=>simp at m
    refine Run.callPure nR oT a (m0 u) fun w' a=>?_;refine rpG ?_;exact done a rfl
  ·rw [bk (show ¬ (c.body.length:Int)<=6 by omega),bk D];refine rpG ?_;exact done a rfl

theorem C1 (s:ByteArray) (S:af):Pure Tryz.prog F8 [.string s] S (.bool (decide (0<bX s))):=by
 intro w a;refine x0.2 ?_;dsimp only[x0,aG];refine Run.callPure ym yT a (sT s S) fun w' a=>?_;refine aA rfl ?_;refine aA rfl ?_;refine eD ?_;exact done a rfl
theorem jb {t:T} {S:af} {cs:List Value} (h:RdT S cs t):Pure Tryz.prog AL [.agg cs.toArray] S (.bool (dM t)):=by
 intro w a;obtain ⟨kv,rfl,_,_,j,g⟩:=RdT.iff.1 h;obtain ⟨k,n,s,i⟩:=t;simp only [T.name,T.kids,T.kind,T.n] at j g ⊢;refine oN.2 ?_;dsimp only[oN,aG];refine bB a fun l w' a=>?_;refine ag a 0 rfl aV az rfl ?_;refine bo ?_;rw [show dM (.mk k n s i)=(decide (k=3) && eM s i.length) from rfl];cases m:decide (k=3)
 ·refine rpG ?_;exact done a rfl
 ·refine rpG ?_;refine ag a 0 rfl aW aO rfl ?_;refine ag a 0 rfl av ar rfl ?_;refine aL g ao ?_;refine Run.callPure uM uE a (p6 s _ S) fun w' a=>?_;refine rpG ?_;exact done a rfl
theorem mJ {t:T} {S:af} {cs:List Value} (h:RdT S cs t):Pure Tryz.prog zT [.agg cs.toArray] S (.bool (fe t)):=by
 intro w a;have l:=h;obtain ⟨kv,rfl,_,_,j,i⟩:=RdT.iff.1 h;obtain ⟨k,n,s,g⟩:=t;simp only [T.name,T.kids,T.kind,T.n] at l j i ⊢;refine pV.2 ?_;dsimp only[pV,aG];refine bB a fun p w' a=>?_;refine ag a 0 rfl aV az rfl ?_;refine bo ?_;have m:dM (.mk k n s g)=(decide (k=3) && eM s g.length):=rfl;rw [show fe (.mk k n s g)=(decide (k=3) && (i4 s && (!eM s g.length && decide (bX s=0)))) from rfl];cases o:decide (k=3)
 ·refine rpG ?_;exact done a rfl
 ·rw [o] at m;refine rpG ?_;refine ag a 0 rfl aW aO rfl ?_;refine Run.callPure lX lk a (kQ s j S) fun w' a=>?_;cases q:i4 s
  ·refine rpG ?_;exact done a rfl
  ·refine rpG ?_;refine ag a 0 rfl aW aO rfl ?_;refine Run.callPure E4 Fv a (C1 s S) fun w' a=>?_;refine dD ?_;rw [FG];cases r:decide (bX s=0)
   ·refine rpG ?_;exact done a (by simp)
   ·refine rpG ?_;refine au a 0 ad rfl rfl ?_;refine Run.callPure ko jX a (jb l) fun w' a=>?_;refine dD ?_;refine rpG ?_;exact done a (by rw [m]; simp)
theorem yl {t:T} {S:af} {cs:List Value} (h:RdT S cs t):Pure Tryz.prog DC [.agg cs.toArray] S (.bool (F3 t)):=by
 intro w a;obtain ⟨kv,rfl,_,_,j,g⟩:=RdT.iff.1 h;obtain ⟨k,n,s,i⟩:=t;simp only [T.name,T.kids,T.kind,T.n] at j g ⊢;refine rP.2 ?_;dsimp only[rP,aG];refine bB a fun l w' a=>?_;refine ag a 0 rfl aV az rfl ?_;refine bo ?_;rw [show F3 (.mk k n s i)=(decide (k=3) && decide (i.length=0)) from rfl];cases m:decide (k=3)
 ·refine rpG ?_;exact done a rfl
 ·refine rpG ?_;refine ag a 0 rfl av ar rfl ?_;refine aL g ao ?_;refine bo ?_;refine rpG ?_;exact done a (by simp)
theorem rl {t:T} {S:af} {cs:List Value} (h:RdT S cs t):Pure Tryz.prog FN [.agg cs.toArray] S (.bool (qA t)):=by
 intro w g;have l:=h;obtain ⟨kv,rfl,_,_,m,j⟩:=RdT.iff.1 h;obtain ⟨k,n,s,i⟩:=t;simp only [T.name,T.kids,T.kind,T.n] at l m j ⊢;refine tD.2 ?_;dsimp only[tD,aG];refine bB g fun p w' g=>?_;refine au g 0 ad rfl rfl ?_;refine Run.callPure AC AZ g (yl l) fun w' g=>?_;rw [show qA (.mk k n s i)=(decide (k=3) && (decide (s=⟨#[33]⟩) && decide (i.length=0))) from rfl];cases a:F3 (.mk k n s i)
 ·refine rpG ?_;refine done g ?_
  replace a:(decide (k=3) && decide (i.length=0))=false:=a
  cases o:decide (k=3)
  ·rfl
  ·rw [o,dL] at a;rw [a,Ao]; rfl
 ·refine rpG ?_;refine ag g 0 rfl aW aO rfl ?_;refine bU ?_;refine rpG ?_;refine done g ?_
  replace a:(decide (k=3) && decide (i.length=0))=true:=a
  rw [bJ] at a;rw [a.1,a.2]; simp
theorem p9 {t:T} {S:af} {cs:List Value} (h:RdT S cs t):Pure Tryz.prog wI [.agg cs.toArray] S (.bool (dF t)):=by
 intro w a;have g:=h.length;refine lf.2 ?_;dsimp only[lf,aG];refine bB a fun i w' a=>?_;refine au a 0 ad rfl (by simpa [Value.cells] using g) ?_;refine Run.callPure lK lM a (jp h) fun w' a=>?_;rw [dF];cases j:cD t
 ·refine rpG ?_;exact done a rfl
 ·refine rpG ?_;refine au a 0 ad rfl (by simpa [Value.cells] using g) ?_;refine Run.callPure oF pe a (mJ h) fun w' a=>?_;cases l:fe t
  ·refine rpG ?_;refine au a 0 ad rfl (by simpa [Value.cells] using g) ?_;refine Run.callPure ko jX a (jb h) fun w' a=>?_;cases m:dM t
   ·refine rpG ?_;refine au a 0 ad rfl (by simpa [Value.cells] using g) ?_;refine Run.callPure un vi a (rl h) fun w' a=>?_;refine rpG ?_;exact done a (by simp)
   ·refine rpG ?_;exact done a (by simp)
  ·refine rpG ?_;exact done a (by simp)

theorem EN {α:Type} (p:α->Bool):∀ xs:List α,(!xs.any fun x=>!p x)=xs.all p
 | []=>rfl
 | x::xs=>by
  rw [dS,List.all_cons,<- EN p xs];cases p x <;> simp

theorem ms {x:T} {S:af} {cs:List Value} (h:RdT S cs x):Pure Tryz.prog jH [.agg cs.toArray] S (.bool (!dF x)):=by
 intro w a;have g:=h.length;refine iR.2 ?_;dsimp only[iR,aG];refine bB a fun i w' a=>?_;refine au a 0 ad rfl (by simpa [Value.cells] using g) ?_;refine Run.callPure u5 vq a (p9 h) fun w' a=>?_;refine dD (done a rfl)
theorem o5 {xs:List T} {S:af} {v:Value} (h:RdSl S 4 (RdT S) v xs):Pure Tryz.prog tz [v] S (.bool (yF xs)):=by
 intro w a;refine kO.2 ?_;dsimp only[kO,aG];refine aL h ao ?_;refine fI ?_;rw [yF];by_cases g:xs.length<=6
 ·rw [bb (show (xs.length:Int)<=6 by omega),bb g];refine rpG ?_;have j:Cb Tryz.prog jH _ [] S (fun _:Unit=>[]) (fun _=>True) (fun _ x=>(!dF x,())) (fun v x=>∃ cs,v=.agg cs.toArray/\RdT S cs x) xs:=
   Cb.pure [] pu pv fun x v _=>by
    rintro ⟨cs,rfl,i⟩ l a;exact (ms i l a).mono fun e w' ⟨m,a⟩=>⟨_,_,_,m,a,Ext.refl _ _ _,rfl,rfl,rfl⟩
  refine Run.call0 fM fQ a (gz j h (st:=()) trivial) fun o I' S' w'=>?_;rintro ⟨rfl,rfl,rfl⟩ _ a;refine dD ?_;refine rpG ?_;refine done a ?_;rw [md (fun x=>!dF x) xs,EN]; rfl
 ·rw [bk (show ¬ (xs.length:Int)<=6 by omega),bk g];refine rpG ?_;exact done a rfl
theorem iD {c:C} {S:af} {cs:List Value} (h:RdC S cs c):Pure Tryz.prog tc [.agg cs.toArray] S (.bool (a4 c)):=by
 intro w a;obtain ⟨q,r,rfl,m,o⟩:=h;have i:=m;obtain ⟨kv,rfl,t,u,B,D⟩:=RdT.iff.1 m;have l:a4 c=(cD c.head && (fe c.head && yF c.body)):=by
  unfold a4 yF;cases cD c.head <;> cases fe c.head <;> simp
 refine jK.2 ?_;dsimp only[jK,aG];rw [l];refine bB a fun p w' a=>?_;refine ay cn ?_;refine ew a 0 [.int .i64 c.head.kind,.int .i64 c.head.n,.string c.head.name,kv] ad rfl rfl ?_ ?_
 ·intro j v g
  match j with
  | 0|1|2|3=>exact g
  | j+4=>simp at g
 refine Run.callPure lK lM a (jp i) fun w' a=>?_;cases G:cD c.head
 ·refine rpG ?_;exact done a rfl
 ·refine rpG ?_;refine ay cn ?_;refine ew a 0 [.int .i64 c.head.kind,.int .i64 c.head.n,.string c.head.name,kv] ad rfl rfl ?_ ?_
  ·intro j v g
   match j with
   | 0|1|2|3=>exact g
   | j+4=>simp at g
  refine Run.callPure oF pe a (mJ i) fun w' a=>?_;cases J:fe c.head
  ·refine rpG ?_;exact done a rfl
  ·refine rpG ?_;refine ag a 0 rfl aT ar rfl ?_;refine Run.callPure s5 sZ a (o5 o) fun w' a=>?_;refine rpG ?_;exact done a rfl
end
end Go.Proofs.YtjbcdmheajljpaaGreat
