/- Data that a function has made for itself: trees of blocks that nobody else knows. -/
import Derived.Test.YtjbcdmheajljpaaGreatZLpF
import Derived.Test.YtjbcdmheajljpaaGreatZLpgz
namespace Go.Proofs.YtjbcdmheajljpaaGreat
section
open Go Go.RowKit
attribute [local irreducible] Run CondV aC aU

abbrev bu:=List (Nat × Obj)
def bG (L:bu):List Item:=L.map fun p=>.blk p.1 p.2
theorem eK (L M:bu):bG (L++M)=bG L++bG M:=by simp [bG]
def Ins (S:ag) (L:bu):Prop:=∀ p∈L,S p.1=some p.2
theorem Ins.mono {S S':ag} {L:bu} (h:Ins S L) (a:Sle S S'):Ins S' L:=fun p g=>a _ _ (h p g)
theorem Ins.left {S:ag} {L M:bu} (h:Ins S (L++M)):Ins S L:=fun p a=>h p (ic _ a)
theorem Ins.right {S:ag} {L M:bu} (h:Ins S (L++M)):Ins S M:=fun p a=>h p (iW _ a)
theorem jh {L:bu} {b:Nat}:b∈bT (bG L)↔∃ p∈L,p.1=b:=by
 simp only [bT,bG,List.mem_flatMap,ng];constructor
 ·rintro ⟨it,⟨p,a,rfl⟩,g⟩;simp only [Item.foot,cO] at g;exact ⟨p,a,g.symm⟩
 ·rintro ⟨p,a,rfl⟩;exact ⟨_,⟨p,a,rfl⟩,by simp [Item.foot]⟩

theorem Inv.publishAll {w0 w:World} {X:List Nat} {A:List Item}:∀ (L:bu) {S:ag},Inv w0 X (A++bG L) S w->
  ∃ S',Inv w0 X A S' w/\Sle S S'/\Ins S' L/\∀ b o,S' b=some o->S b=some o ∨ b∈bT (bG L)
 | [],S,h=>⟨S,by simpa [bG] using h,Sle.refl S,by intro p m; simp at m,fun b o i=>.inl i⟩
 | p::L,S,h=>by
  have C:(A++bG (p::L))[A.length]?=some (.blk p.1 p.2):=by simp [bG]
  obtain ⟨j,r⟩:=h.publish C;have D:(A++bG (p::L)).eraseIdx A.length=A++bG L:=by simp [bG,List.eraseIdx_append_of_length_le]
  rw [D] at j;obtain ⟨S',t,l,u,B⟩:=publishAll L j;refine ⟨S',t,r.trans l,fun q a=>?_,fun b o i=>?_⟩
  ·rcases ek.1 a with rfl|a
   ·exact l _ _ (by simp [nl])
   ·exact u q a
  ·rcases B b o i with g|g
   ·simp only [nl] at g;split at g
    ·rename_i e; right; rw [jh]; exact ⟨p,bL ..,e.symm⟩
    ·exact .inl g
   ·right;obtain ⟨q,a,e⟩:=jh.1 g;exact jh.2 ⟨q,bV _ a,e⟩

def TrSl {α:Type} (k:Nat) (R:bu->List Value->α->Prop) (L:bu) (v:Value) (xs:List α):Prop:=
 ∃ a cap,v=.slice a xs.length cap/\xs.length<=cap/\cap<=maxLen/\
  ((xs=[]/\L=[]) ∨ ∃ b c E,∃ Ls:List bu,a=some ⟨b,0,none⟩/\L=(b,.cells c E)::Ls.flatten/\Ls.length=xs.length/\cap * k<=c.size/\
   ∀ i (h:i<xs.length) (h':i<Ls.length),R Ls[i] (bB c (i * k) k) xs[i])
inductive TrT:bu->List Value->T->Prop
 | nil {k n:Int} {s:ByteArray} {a:Option Addr} {cap:Nat} (hk:inI k) (hn:inI n) (hs:s.size<=maxLen) (hc:cap<=maxLen) :
   TrT [] [.int .i64 k,.int .i64 n,.string s,.slice a 0 cap] (.mk k n s [])
 | cons {k n:Int} {s:ByteArray} {kids:List T} {b cap:Nat} {c:Array Value} {E:TypeId} {Ls:List bu} (hk:inI k) (hn:inI n) (hs:s.size<=maxLen) (hl:kids.length<=cap) (hc:cap<=maxLen)
   (hLs:Ls.length=kids.length) (hsz:cap * 4<=c.size) (h:∀ i (h:i<kids.length) (h':i<Ls.length),TrT Ls[i] (bB c (i * 4) 4) kids[i]) :
   TrT ((b,.cells c E)::Ls.flatten) [.int .i64 k,.int .i64 n,.string s,.slice (some ⟨b,0,none⟩) kids.length cap] (.mk k n s kids)
theorem TrT.iff {L:bu} {cs:List Value} {t:T}:TrT L cs t ↔
  ∃ ks,cs=[.int .i64 t.kind,.int .i64 t.n,.string t.name,ks]/\inI t.kind/\inI t.n/\t.name.size<=maxLen/\TrSl 4 TrT L ks t.kids:=by
 constructor
 ·intro h;cases h with
  | nil hk hn j hc=>exact ⟨_,rfl,hk,hn,j,_,_,rfl,aK _,hc,.inl ⟨rfl,rfl⟩⟩
  | cons hk hn j l hc g i h=>exact ⟨_,rfl,hk,hn,j,_,_,rfl,l,hc,.inr ⟨_,_,_,_,rfl,rfl,g,i,h⟩⟩
 ·obtain ⟨k,n,s,kids⟩:=t;rintro ⟨ks,rfl,hk,hn,j,a,cap,rfl,l,hc,h⟩;rcases h with ⟨h,rfl⟩|⟨b,c,E,Ls,rfl,rfl,g,i,h⟩
  ·simp only [T.kids] at h;subst h;exact TrT.nil hk hn j hc
  ·exact TrT.cons hk hn j l hc g i h
theorem TrT.length {L:bu} {cs:List Value} {t:T} (h:TrT L cs t):cs.length=4:=by
 obtain ⟨ks,rfl,_⟩:=TrT.iff.1 h; rfl
theorem TrT.one {L:bu} {cs:List Value} {t:T} (h:TrT L cs t):∀ u∈cs,u.oneCell'=true:=by
 obtain ⟨ks,rfl,_,_,_,a,cap,rfl,_⟩:=TrT.iff.1 h;intro u g;simp at g;rcases g with rfl|rfl|rfl|rfl <;> rfl
theorem RdT.one {S:ag} {cs:List Value} {t:T} (h:RdT S cs t):∀ u∈cs,u.oneCell'=true:=by
 obtain ⟨ks,rfl,_,_,_,a,cap,rfl,_⟩:=RdT.iff.1 h;intro u g;simp at g;rcases g with rfl|rfl|rfl|rfl <;> rfl
theorem Fd {S:ag} {Ls:List bu} (h:Ins S Ls.flatten) {i:Nat} (a:i<Ls.length):Ins S Ls[i]:=
 fun p g=>h p (List.mem_flatten.2 ⟨_,cH a,g⟩)
theorem TrSl.rd {α:Type} {S:ag} {k:Nat} {R:bu->List Value->α->Prop} {R':List Value->α->Prop} {L:bu} {v:Value} {xs:List α} (h:TrSl k R L v xs) (g:Ins S L)
  (hR:∀ L cs x,Ins S L->R L cs x->R' cs x):RdSl S k R' v xs:=by
 obtain ⟨a,cap,rfl,m,hc,h⟩:=h;refine ⟨a,cap,rfl,m,hc,?_⟩;rcases h with ⟨h,_⟩|⟨b,c,E,Ls,rfl,rfl,o,q,h⟩
 ·exact .inl h
 ·refine .inr ⟨b,0,c,E,(0,0),rfl,g _ (bL ..),fun i j=>?_⟩;rw [df];exact hR _ _ _ (Fd (fun p l=>g p (bV _ l)) (by omega)) (h i j (by omega))
theorem TrT.rd {S:ag} {L:bu} {cs:List Value} {t:T} (h:TrT L cs t) (g:Ins S L):RdT S cs t:=by
 induction h with
 | nil hk hn a hc=>exact RdT.nil hk hn a hc
 | cons hk hn a m hc q r h u=>
  refine RdT.cons hk hn a m hc (g _ (bL ..)) (o:=0) fun i j=>?_;rw [df];exact u i j (by omega) (Fd (fun p l=>g p (bV _ l)) (by omega))
def TrC (L:bu) (cs:List Value) (c:C):Prop:=∃ hd ks L1 L2,cs=hd++[ks]/\L=L1++L2/\TrT L1 hd c.head/\TrSl 4 TrT L2 ks c.body
theorem TrC.rd {S:ag} {L:bu} {cs:List Value} {c:C} (h:TrC L cs c) (a:Ins S L):RdC S cs c:=by
 obtain ⟨g,ks,L1,L2,rfl,rfl,i,j⟩:=h;exact ⟨g,ks,rfl,i.rd a.left,j.rd a.right fun _ _ _ a h=>h.rd a⟩
theorem TrC.length {L:bu} {cs:List Value} {c:C} (h:TrC L cs c):cs.length=5:=by
 obtain ⟨g,ks,L1,L2,rfl,rfl,a,i⟩:=h; simp [a.length]
theorem TrC.one {L:bu} {cs:List Value} {c:C} (h:TrC L cs c):∀ u∈cs,u.oneCell'=true:=by
 obtain ⟨j,ks,L1,L2,rfl,rfl,i,a,cap,rfl,_⟩:=h;intro u g;rcases cI.1 g with g|g
 ·exact i.one u g
 ·simp at g; subst g; rfl

section
variable {P:Program} {w w0:World} {X:List Nat} {L:List Item} {S:ag} {K:Value->World->Prop}
theorem Run.call0 {f:FuncId} {fn:Func} {args:List Value} {Post:Value->List Item->ag->Prop}
  (hf:P.funcs[f]?=some fn) (hn:(fn.name == "runtime.NumGoroutine" || fn.body.isNone)=false) (h:Inv w0 X L S w) (hc:Tri P f args [] S Post)
  (hk:∀ v I' S' w',Post v I' S'->Sle S S'->Inv w0 X (L++I') S' w'->K v w'):Run P (fa (.func (.func f) #[] #[]) args) w K:=
 Run.call (A:=L) (I:=[]) hf hn (by simpa using h) hc hk
theorem dG {T U ty h E:TypeId} {f d b:Nat} {c:Array Value} {v:Value} (l:Inv w0 X L S w) (i:Nat) (m:L[i]?=some (.blk b (.cells c E))) (hf:cd P T f=some d) (o:jO P U=true) (a:Nat.blt d c.size=true)
  (j:v.cells=#[v]) (p:v.oneCell'=true)
  {K:Value->Value->World->Prop} (hk:∀ w',Inv w0 X (L.set i (.blk b (.cells (c.setIfInBounds d v) E))) S w'->K (.pointer (some ⟨b,d,none⟩)) undef w') :
  Run P (sOp (.fieldAddr T (.const (.pointer (some ⟨b,0,none⟩))) f) ty) w fun q w'=>Run P (sOp (.store U (.const q) (.const v)) h) w' (K q):=by
 have a:d<c.size:=by simpa [Nat.blt_eq] using a
 refine au hf ?_;rw [df];refine ef l i (n:=1) (by rw [j]; rfl) (by rw [o]; rfl) m (by omega) (by rw [j]; simpa using p) fun w' g=>hk w' ?_;have:bY c d v.cells.toList=c.setIfInBounds d v:=by
  rw [j];apply zo.1;simp only [bY,QN];have r:d<c.toList.length:=by simpa using a
  rw [wJ,af r];simp
 rw [this] at g;exact g
theorem N8 {T ty E:TypeId} {o b n:Nat} {c:Array Value} {v:Value} (g:Inv w0 X L S w) (i:Nat) (h:L[i]?=some (.blk b (.cells c E))) (j:nD P T=some n) (hn:v.cells.size=n) (a:Nat.ble (o+n) c.size=true)
  (l:∀ u∈v.cells.toList,u.oneCell'=true) (hk:∀ w',Inv w0 X (L.set i (.blk b (.cells (bY c o v.cells.toList) E))) S w'->K undef w') :
  Run P (sOp (.store T (.const (.pointer (some ⟨b,o,none⟩))) (.const v)) ty) w K:=
 ef g i hn (by rw [j]; simp) h (Ce a) l hk
theorem al {T ty E:TypeId} {b n:Nat} {c cs:Array Value} (g:Inv w0 X L S w) (i:Nat) (h:L[i]?=some (.blk b (.cells c E))) (j:nD P T=some n) (hn:cs.size=n) (hc:c.size=n)
  (l:∀ u∈cs.toList,u.oneCell'=true) (hk:∀ w',Inv w0 X (L.set i (.blk b (.cells cs E))) S w'->K undef w') :
  Run P (sOp (.store T (.const (.pointer (some ⟨b,0,none⟩))) (.const (.agg cs))) ty) w K:=by
 refine ef g i (v:=.agg cs) (n:=n) hn (by rw [j]; simp) h (by omega) l fun w' a=>hk w' ?_;have:bY c 0 (Value.agg cs).cells.toList=cs:=by
  rw [u4 _ _ (by simp [Value.cells,hn,hc])];simp [Value.cells]
 rw [this] at a;exact a
end

theorem TrSl.nil {α:Type} {k:Nat} {R:bu->List Value->α->Prop} {a:Option Addr} {cap:Nat} (hc:cap<=maxLen):TrSl k R [] (.slice a 0 cap) ([]:List α):=
 ⟨a,cap,rfl,aK _,hc,.inl ⟨rfl,rfl⟩⟩
def Part {α:Type} (k:Nat) (R:bu->List Value->α->Prop) (c:Array Value) (Ls:List bu) (xs:List α):Prop:=
 Ls.length=xs.length/\∀ i (h:i<xs.length) (h':i<Ls.length),R Ls[i] (bB c (i * k) k) xs[i]
theorem Part.nil {α:Type} (k:Nat) (R:bu->List Value->α->Prop) (c:Array Value):Part k R c [] ([]:List α):=⟨rfl,fun i h=>by simp at h⟩
theorem Part.snoc {α:Type} {k:Nat} {R:bu->List Value->α->Prop} {c:Array Value} {Ls:List bu} {xs:List α} (h:Part k R c Ls xs) {cs:List Value} {L:bu} {x:α} (o:R L cs x) (l:cs.length=k)
  (a:(xs.length+1) * k<=c.size):Part k R (bY c (xs.length * k) cs) (Ls++[L]) (xs++[x]):=by
 have hf:xs.length * k+cs.length<=c.size:=by rw [l]; rw [gq,l3] at a; exact a
 refine ⟨by simp [h.1],fun i p q=>?_⟩;by_cases j:i<xs.length
 ·have g:i<Ls.length:=by rw [h.1]; exact j
  rw [oo g,oo j,gj hf]
  ·exact h.2 i j g
  ·left;have:(i+1) * k<=xs.length * k:=fH _ j;rw [gq,l3] at this;exact this
 ·have m:i=xs.length:=by simp at p; omega
  subst m;have g:xs.length=Ls.length:=h.1.symm;rw [pM (by omega),pM (by omega)];simp only [g,fg,oC];rw [<- g,<- l,ft (by rw [l] at hf ⊢; exact hf)];exact o
theorem Part.sl {α:Type} {k:Nat} {R:bu->List Value->α->Prop} {b:Nat} {c:Array Value} {E:TypeId} {Ls:List bu} {xs:List α} {cap:Nat} (h:Part k R c Ls xs) (a:xs.length<=cap) (g:cap<=maxLen) (i:cap * k<=c.size) :
  TrSl k R ((b,.cells c E)::Ls.flatten) (.slice (some ⟨b,0,none⟩) xs.length cap) xs:=
 ⟨_,cap,rfl,a,g,.inr ⟨b,c,E,Ls,rfl,rfl,h.1,i,h.2⟩⟩
end
section
open Go Go.RowKit
section
variable {P:Program} {w:World} {K:Value->World->Prop} {ty:TypeId}
attribute [local irreducible] Run CondV aC aU
theorem jv {a:Bool} {v:Value} {A:Prop} (i:a=true->A) (hf:a=false->K (.bool false) w):aC (.bool a) true A (Run P (sOp (.pick (.const (.bool a)) (.const v) (.const (.bool false))) ty) w K):=
 Le i fun h=>by
  have g:a=false:=by simpa using h
  refine sA ?_;rw [g];exact hf g
theorem gM {a:Bool} {v u:Value} (g:a=true) (hk:K v w):Run P (sOp (.pick (.const (.bool a)) (.const v) (.const u)) ty) w K:=by
 refine sA ?_;rw [g];exact hk
theorem nu {v:Value} {A:Prop} (hk:K (.bool false) w):aC (.bool false) true A (Run P (sOp (.pick (.const (.bool false)) (.const v) (.const (.bool false))) ty) w K):=
 jv (fun h=>by cases h) fun _=>hk
theorem FB {a:Bool} {v:Value} {A:Prop} (i:a=true->K (.bool true) w) (hf:a=false->A):aC (.bool a) false A (Run P (sOp (.pick (.const (.bool a)) (.const (.bool true)) (.const v)) ty) w K):=
 Le hf fun h=>by
  have g:a=true:=by simpa using h
  refine sA ?_;rw [g];exact i g
theorem yF {a:Bool} {v u:Value} (g:a=false) (hk:K v w):Run P (sOp (.pick (.const (.bool a)) (.const u) (.const v)) ty) w K:=by
 refine sA ?_;rw [g];exact hk
theorem SA {v:Value} {A:Prop} (hk:K (.bool true) w):aC (.bool true) false A (Run P (sOp (.pick (.const (.bool true)) (.const (.bool true)) (.const v)) ty) w K):=
 FB (fun _=>hk) fun h=>by cases h
end

def y0 (cs:List Value) (s:ByteArray):Prop:=cs=[.string s]
def jG (cs:List Value) (n:Int):Prop:=cs=[.int .i64 n]
section
variable {P:Program} {w w0:World} {X:List Nat} {L:List Item} {S:ag} {K:Value->World->Prop}
attribute [local irreducible] Run CondV aC aU
theorem sW (h:Inv w0 X L S w) {s:Sem Next} {v:Nat->Value} {o:Obj} (a:s.run P w=.ok (.value (v w.heap.size)) { w with heap:=w.heap.push o })
  (hk:∀ b w',Inv w0 X (L++[.blk b o]) S w'->K (v b) w'):Run P s w K:=Run.of a (hk _ _ (h.alloc o))
theorem Inv.publishLast {b:Nat} {o:Obj} (h:Inv w0 X (L++[.blk b o]) S w):Inv w0 X L (nl S b o) w/\Sle S (nl S b o):=by
 have a:(L++[Item.blk b o])[L.length]?=some (.blk b o):=by simp
 have:=h.publish a
 rwa [show (L++[Item.blk b o]).eraseIdx L.length=L by simp [List.eraseIdx_append_of_length_le]] at this
theorem lr {α:Type} {T U ty a E:TypeId} {R:List Value->α->Prop} {v u:Value} {xs:List α} (j:Inv w0 X L S w) (h:RdSl S 1 R v xs) (l:cY P T=some (E,1)) (m:jO P U=true)
  {i:Nat} (g:i<xs.length) (hR:∀ cs,R cs xs[i]->cs=[u]) {K:Value->Value->World->Prop} (hk:K (elP v (i * 1)) u w) :
  Run P (sOp (.indexAddr T (.const v) (.const (.int .i64 i))) ty) w fun p w'=>Run P (sOp (.load U (.const p)) a) w' (K p):=by
 obtain ⟨b,o,cap,c,E',t,rfl,q,r⟩:=h.at_ g;refine aT l g ?_;refine dE m ?_ hk;rw [j.cellS q];exact bd (hR _ r) 0 u rfl
end
theorem RdSl.ofCells {α:Type} {S:ag} {R:List Value->α->Prop} {b n:Nat} {c:Array Value} {E:TypeId} {a:Nat × Nat} {xs:List α} (g:S b=some (.cells c E a)) (hn:xs.length=n) (j:n<=maxLen)
  (h:∀ i (h:i<xs.length),R (bB c i 1) xs[i]):RdSl S 1 R (.slice (some ⟨b,0,none⟩) n n) xs:=by
 subst hn;exact ⟨_,_,rfl,be _,j,.inr ⟨b,0,c,E,a,rfl,g,fun i l=>by rw [df,Nat.mul_one]; exact h i l⟩⟩
end
section
open Go

def signs:List ByteArray:=[⟨#[43]⟩,⟨#[45]⟩,⟨#[42]⟩,⟨#[47,47]⟩,⟨#[61]⟩,⟨#[92,61]⟩,⟨#[61,61]⟩,⟨#[60]⟩,⟨#[62]⟩,⟨#[61,60]⟩,⟨#[62,61]⟩,⟨#[61,58,61]⟩,⟨#[46]⟩,⟨#[91,93]⟩,⟨#[33]⟩]
def pc (b:UInt8):Bool:=decide (97<=b.toNat) && decide (b.toNat<=122)
def o9 (s:ByteArray):Bool:=s.data.toList.all pc
def lx (s:ByteArray):Bool:=o9 s && (decide (1<=s.size) && decide (s.size<=6))
def gJ (s:ByteArray):Bool:=lx s || signs.any fun x=>decide (x=s)
def emptyB:ByteArray:=⟨#[]⟩
def eV (t:T):Bool:=
 if t.kind=1 then decide (0<=t.n) && (decide (t.n<=25) && (decide (t.name=emptyB) && decide (t.kids.length=0)))
 else if t.kind=2 then decide (-999<=t.n) && (decide (t.n<=999) && (decide (t.name=emptyB) && decide (t.kids.length=0)))
 else if t.kind=3 then decide (t.n=0) && (gJ t.name && decide (t.kids.length<=4))
 else false
mutual
def dx:T->Int->Bool
 | .mk k n s ks,d=>if d<1 then false else eV (.mk k n s ks) && dj ks (d - 1)
def dj:List T->Int->Bool
 | [],_=>true
 | t::ts,d=>dx t d && dj ts d
end
mutual
def bM:T->Int
 | .mk _ _ _ ks=>1+bi ks
def bi:List T->Int
 | []=>0
 | t::ts=>bM t+bi ts
end
mutual
def jN:T->Int->Int
 | .mk _ _ _ ks,most=>gi ks 1 most
def gi:List T->Int->Int->Int
 | [],n,_=>n
 | t::ts,n,most=>if n<=most then gi ts (n+jN t (most - n)) most else n
end
def cA (t:T):Bool:=dx t 30 && decide (bM t<=120)

mutual
theorem cZ:∀ t:T,1<=bM t
 | .mk _ _ _ ks=>by simp only [bM]; have:=bU ks; omega
theorem bU:∀ ts:List T,0<=bi ts
 | []=>by simp [bi]
 | t::ts=>by simp only [bi]; have:=cZ t; have:=bU ts; omega
end
mutual
theorem wj:∀ (t:T) (a:Int),0<=a->(bM t<=a->jN t a=bM t)/\(a<bM t->a<jN t a/\jN t a<=bM t)
 | .mk _ _ _ ks,a,h=>by
  simp only [bM,jN];have:=D1 ks 1 a h (by omega);exact this
theorem D1:∀ (ts:List T) (n a:Int),0<=a->1<=n->(n+bi ts<=a->gi ts n a=n+bi ts)/\(a<n+bi ts->a<gi ts n a/\gi ts n a<=n+bi ts)
 | [],n,a,h,h1=>by
  simp only [bi,gi];exact ⟨fun _=>by omega,fun _=>by omega⟩
 | t::ts,n,a,h,h1=>by
  simp only [bi,gi];have m:=cZ t;have o:=bU ts;by_cases hn:n<=a
  ·rw [af hn];have i:=wj t (a - n) (by omega);by_cases hc:bM t<=a - n
   ·rw [i.1 hc];have j:=D1 ts (n+bM t) a h (by omega);exact ⟨fun g=>by rw [j.1 (by omega)]; omega,fun g=>by have:=j.2 (by omega); omega⟩
   ·have p:=i.2 (by omega);have l:gi ts (n+jN t (a - n)) a=n+jN t (a - n):=by
     cases ts with
     | nil=>rfl
     | cons u q=>rw [gi,ae (by omega)]
    rw [l];exact ⟨fun g=>by omega,fun g=>by omega⟩
  ·rw [ae hn];exact ⟨fun g=>by omega,fun g=>by omega⟩
end
theorem MH (t:T):decide (jN t 120<=120)=decide (bM t<=120):=by
 have h:=wj t 120 (by omega);by_cases hc:bM t<=120
 ·rw [h.1 hc]
 ·have:=h.2 (by omega);rw [bf (by omega),bf hc]

mutual
def fA:T->Int->Int->Bool × Int
 | .mk k n s ks,deep,c=>
  if 120<c+1 ∨ 30<deep then (false,c+1)
  else if k=1 ∨ k=2 then (eV (.mk k n s ks),c+1)
  else if k=3 then (if eV (.mk k n s ks) then lh ks (deep+1) (c+1) else (false,c+1))
  else (false,c+1)
def lh:List T->Int->Int->Bool × Int
 | [],_,c=>(true,c)
 | t::ts,deep,c=>if (fA t deep c).1 then lh ts deep (fA t deep c).2 else (false,(fA t deep c).2)
end
theorem HI {k n:Int} {s:ByteArray} {ks:List T} (h:eV (.mk k n s ks)=true) (hk:k=1 ∨ k=2):ks=[]:=by
 unfold eV at h;simp only [T.kind,T.n,T.name,T.kids] at h;rcases hk with rfl|rfl <;> simp at h <;> exact h.2.2.2
theorem PD {k n:Int} {s:ByteArray} {ks:List T} (h:eV (.mk k n s ks)=true):k=1 ∨ k=2 ∨ k=3:=by
 unfold eV at h;simp only [T.kind,T.n,T.name,T.kids] at h;by_cases a:k=1
 ·exact .inl a
 ·by_cases g:k=2
  ·exact .inr (.inl g)
  ·by_cases i:k=3
   ·exact .inr (.inr i)
   ·simp [a,g,i] at h
mutual
theorem Aw:∀ (t:T) (a c:Int),(fA t a c).1=(dx t (31 - a) && decide (c+bM t<=120))/\((fA t a c).1=true->(fA t a c).2=c+bM t)
 | .mk k n s ks,a,c=>by
  have m:=bU ks;rw [show bM (T.mk k n s ks)=1+bi ks from rfl];simp only [fA,dx];by_cases g:120<c+1 ∨ 30<a
  ·rw [af g];refine ⟨?_,fun h=>by cases h⟩;rcases g with g|g
   ·rw [bf (show ¬ (c+(1+bi ks)<=120) by omega),Bi]
   ·rw [af (show 31 - a<1 by omega)]; rfl
  ·rw [ae g,ae (show ¬ (31 - a<1) by omega)];by_cases i:k=1 ∨ k=2
   ·rw [af i];cases j:eV (.mk k n s ks) with
    | false=>exact ⟨rfl,fun h=>by cases h⟩
    | true=>
     have:=HI j i;subst this;rw [show bi []=0 from rfl];simp only [dj,eL];exact ⟨by rw [aP (show c+(1+0)<=120 by omega)],fun _=>by omega⟩
   ·rw [ae i];by_cases l:k=3
    ·rw [af l];cases j:eV (.mk k n s ks) with
     | false=>exact ⟨rfl,fun h=>by cases h⟩
     | true=>
      simp only [if_true,eL];have:=HC ks (a+1) (c+1);rw [show 31 - (a+1)=31 - a - 1 by omega] at this;rw [show c+(1+bi ks)=c+1+bi ks by omega];refine ⟨?_,this.2⟩;rw [this.1];cases ks with
      | nil=>rw [show bi []=0 from rfl,aP (show c+1+0<=120 by omega)]; rfl
      | cons t ts=>simp
    ·rw [ae l];have j:eV (.mk k n s ks)=false:=by
      rw [<- Mn];intro h;rcases PD h with e|e|e
      ·exact i (.inl e)
      ·exact i (.inr e)
      ·exact l e
     rw [j];exact ⟨rfl,fun h=>by cases h⟩
theorem HC:∀ (ts:List T) (a c:Int),(lh ts a c).1=(dj ts (31 - a) && (ts.isEmpty || decide (c+bi ts<=120)))/\((lh ts a c).1=true->(lh ts a c).2=c+bi ts)
 | [],a,c=>by simp [lh,dj,bi]
 | t::ts,a,c=>by
  have g:=Aw t a c;have p:=bU ts;rw [show bi (t::ts)=bM t+bi ts from rfl];simp only [lh,dj,List.isEmpty_cons,gI];cases m:(fA t a c).1 with
  | false=>
   rw [m] at g;have i:=g.1;refine ⟨?_,fun h=>by cases h⟩;simp only [pQ,if_false];cases j:dx t (31 - a) with
   | false=>rfl
   | true=>
    rw [j,eL] at i;have:¬ (c+bM t<=120):=of_decide_eq_false i.symm;rw [bf (show ¬ (c+(bM t+bi ts)<=120) by omega),Bi]
  | true=>
   rw [m] at g;have i:=g.1;have o:=g.2 rfl;simp only [if_true];rw [o];have j:dx t (31 - a)=true/\c+bM t<=120:=by
    have:=i.symm;simpa using this
   have l:=HC ts a (c+bM t);rw [show c+(bM t+bi ts)=c+bM t+bi ts by omega];refine ⟨?_,l.2⟩;rw [l.1,j.1,eL];cases ts with
   | nil=>rw [show bi []=0 from rfl,aP (show c+bM t+0<=120 by omega)]; rfl
   | cons u q=>simp
end
theorem Ki (t:T):(fA t 1 0).1=cA t:=by
 rw [(Aw t 1 0).1,cA];simp
end
section
open Go Go.RowKit
attribute [local irreducible] Run CondV aC aU

mutual
def wT:T->Nat
 | .mk _ _ s ks=>s.size+ks.length+wL ks
def wL:List T->Nat
 | []=>0
 | t::ts=>wT t+wL ts
end
theorem qk:∀ {ts:List T} {t:T},t∈ts->wT t<=wL ts
 | x::xs,t,h=>by
  simp only [wL];rcases ek.1 h with rfl|h
  ·omega
  ·have:=qk h; omega

abbrev Ob {α:Type} (k:Nat) (R:bu->List Value->α->Prop) (S:ag) (xs:List α):Value->List Item->ag->Prop:=
 fun v I' S'=>S'=S/\∃ L,I'=bG L/\TrSl k R L v xs
abbrev D2 (S:ag) (t:T):Value->List Item->ag->Prop:=fun v I' S'=>S'=S/\∃ cs L,v=.agg cs.toArray/\I'=bG L/\TrT L cs t

def wC (c:C):Nat:=wT c.head+c.body.length+wL c.body
def wP:List C->Nat
 | []=>0
 | c::cs=>wC c+wP cs
theorem Oz:∀ {cs:List C} {c:C},c∈cs->wC c<=wP cs
 | x::xs,c,h=>by
  simp only [wP];rcases ek.1 h with rfl|h
  ·omega
  ·have:=Oz h; omega
abbrev Ra (S:ag) (c:C):Value->List Item->ag->Prop:=fun v I' S'=>S'=S/\∃ cs L,v=.agg cs.toArray/\I'=bG L/\TrC L cs c
end
section
open Go Go.RowKit
attribute [local irreducible] Run CondV aC aU

theorem GY {α:Type} (p:α->Bool) (l:List α) (k:Nat) (h:k<l.length):(l.drop k).all p=(p l[k] && (l.drop (k+1)).all p):=by
 rw [dR h,LZ]
theorem Pb {α:Type} (p:α->Bool) (l:List α) (k:Nat) (h:k<l.length):(l.drop k).any p=(p l[k] || (l.drop (k+1)).any p):=by
 rw [dR h,fm]
theorem ne (s:ByteArray):s.data.toList.length=s.size:=by rw [Np]; rfl
theorem GN (s:ByteArray) (k:Nat) (h:k<s.size):s.data.toList[k]'(by rw [ne]; exact h)=s[k]:=rfl

theorem uH (s:ByteArray) (q:s.size<=maxLen) (S:ag):Pure Tryz.prog K0 [.string s] S (.bool (lx s)):=by
 intro w l;simp only [maxLen] at q;refine xH.2 ?_;dsimp only[xH,aQ];refine ⟨fun i w'=>∃ k:Nat,k<=s.size/\i=.int .i64 k/\(s.data.toList.drop k).all pc=o9 s/\Inv w [] [] S w',fun i _=>s.size - (intOf i).toNat,⟨0,aK _,rfl,rfl,l⟩,?_⟩;intro r _ _ _ _ _ _ _ _ _ _ _ _ _ _ _ _ _ w';rintro ⟨k,hk,rfl,g,l⟩;refine kJ aR ?_;refine cu ?_;refine aS (fun o=>?_) (fun o=>?_)
 ·have j:k<s.size:=by omega
  have a:=GY pc s.data.toList k (by rw [ne]; exact j);rw [GN s k j] at a;refine ⟨fun t w'=>t=.bool (!pc s[k])/\Inv w [] [] S w',?_,?_⟩
  ·refine kR aR j ?_;refine cu ?_;refine FB (fun h=>⟨?_,l⟩) (fun h=>?_)
   ·have h:=of_decide_eq_true h;rw [pc,bf (show ¬ 97<=s[k].toNat by omega)]; rfl
   ·refine kR aR j ?_;refine fC ?_;refine yF h ⟨?_,l⟩;have h:=of_decide_eq_false h;rw [pc,aP (show 97<=s[k].toNat by omega),eL];by_cases m:s[k].toNat<=122
    ·rw [aP m,bf (by omega)]; rfl
    ·rw [bf m,aP (by omega)]; rfl
  intro t _ _ _ _ _ _ _ _ _ w';rintro ⟨rfl,l⟩;refine aI (fun h=>done l ?_) (fun h=>?_)
  ·simp at h;rw [lx,<- g,a,h]; rfl
  ·simp at h;refine bF (by omega) ?_;refine ⟨⟨k+1,j,rfl,by rw [<- g,a,h]; rfl,l⟩,by simp [intOf]; omega⟩
 ·have:k=s.size:=by omega
  subst this;have p:o9 s=true:=by rw [<- g,<- ne,ew]; rfl
  refine kJ aR ?_;refine lj ?_;refine jv (fun h=>?_) (fun h=>done l ?_)
  ·refine kJ aR ?_;refine fY ?_;refine gM h (done l ?_);have h:=of_decide_eq_true h;rw [lx,p,aP (show 1<=s.size by omega)];by_cases m:s.size<=6
   ·rw [aP m,aP (by omega)]; rfl
   ·rw [bf m,bf (by omega)]; rfl
  ·have h:=of_decide_eq_false h;rw [lx,p,bf (show ¬ 1<=s.size by omega)]; rfl

def wu:Array Value:=(signs.map Value.string).toArray
theorem Il {S:ag} {b:Nat} {E:TypeId} (g:S b=some (.cells wu E)):RdSl S 1 y0 (.slice (some ⟨b,0,none⟩) 15 15) signs:=by
 refine RdSl.ofCells g rfl (by decide) ?_;intro i h;have a:i<15:=h
 match i,a with
 | 0,_|1,_|2,_|3,_|4,_|5,_|6,_|7,_|8,_|9,_|10,_|11,_|12,_|13,_|14,_=>rfl
abbrev DA (S:ag):Value->List Item->ag->Prop:=fun v I' S'=>I'=[]/\Sle S S'/\RdSl S' 1 y0 v signs
theorem HX {S:ag} {b n:Nat} {o:Obj} (h:n<=b) (a:Sle S (nl S b o)):Ext n [] S (nl S b o):=
 ⟨a,fun c o' hc=>by
  simp only [nl] at hc;split at hc
  ·rename_i e; subst e; exact .inr (.inr h)
  ·exact .inl hc⟩
theorem rq (S:ag):Tri Tryz.prog In [] [] S (DA S):=by
 intro w g;refine um.2 ?_;dsimp only[um,oD];refine sW (v:=fun b=>.slice (some ⟨b,0,none⟩) 15 15) (o:=.cells wu fb) g (by kernel_rfl) fun b w' g=>?_;have a:w.heap.size<=b:=by
  rcases g.new b (by simp [bT,Item.foot]) with h|h
  ·simp [bT] at h
  ·exact h
 obtain ⟨j,i⟩:=Inv.publishLast (L:=[]) g;exact ⟨_,_,_,rfl,j,HX a i,rfl,i,Il (by simp [nl]; rfl)⟩
theorem IR (s:ByteArray) {xs:List ByteArray} {S:ag} {v:Value} (h:RdSl S 1 y0 v xs):Pure Tryz.prog M7 [v,.string s] S (.bool (xs.any fun x=>decide (x=s))):=by
 intro w l;have m:=h.le;simp only [maxLen] at m;refine Bo.2 ?_;dsimp only[Bo,bm];refine ⟨fun i w'=>∃ k:Nat,k<=xs.length/\i=.int .i64 k/\(xs.drop k).any (fun x=>decide (x=s))=xs.any (fun x=>decide (x=s))/\Inv w [] [] S w',fun i _=>xs.length - (intOf i).toNat,⟨0,aK _,rfl,rfl,l⟩,?_⟩;intro r _ _ _ _ _ _ _ _ _ _ _ _ _ w';rintro ⟨k,hk,rfl,a,l⟩;refine aG h de ?_;refine cu ?_;refine aS (fun o=>?_) (fun o=>?_)
 ·have j:k<xs.length:=by omega
  have g:=Pb (fun x=>decide (x=s)) xs k j;refine lr l h de aZ j (fun cs p=>p) ?_;refine cM ?_;refine aI (fun q=>done l ?_) (fun q=>?_)
  ·rw [<- a,g,q]; rfl
  ·refine bF (by omega) ?_;exact ⟨⟨k+1,j,rfl,by rw [<- a,g,q]; rfl,l⟩,by simp [intOf]; omega⟩
 ·have:k=xs.length:=by omega
  subst this;exact done l (by rw [<- a,ew]; rfl)
theorem yp {w w':World} {L:List Item} {S S':ag} {r a:Value} (h:Inv w [] L S' w') (g:Sle S S') (e:a=r):Ending.returned a=.returned r/\Inv w [] [] S w':=⟨by rw [e],h.nil.less g⟩
theorem xj (s:ByteArray) (i:s.size<=maxLen) (S:ag):Pure Tryz.prog CU [.string s] S (.bool (gJ s)):=by
 intro w a;refine pe.2 ?_;dsimp only[pe,aQ];refine Run.callPure ya yw a (uH s i S) fun w' a=>?_;refine FB (fun h=>done a ?_) (fun h=>?_)
 ·rw [gJ,h]; rfl
 ·refine Run.call0 uO tZ a (rq S) fun v' I' S' w'=>?_;rintro ⟨rfl,_,j⟩ g a;refine Run.callPure JZ JP a (IR s j) fun w' a=>?_;refine yF h (yp a g ?_);rw [gJ,h]; rfl

theorem Ha {t:T} {S:ag} {cs:List Value} (h:RdT S cs t):Pure Tryz.prog MO [.agg cs.toArray] S (.bool (eV t)):=by
 intro w a;obtain ⟨kv,rfl,_,_,q,o⟩:=RdT.iff.1 h;obtain ⟨k,n,s,ks⟩:=t;simp only [T.name,T.kids,T.kind,T.n] at q o ⊢;refine BU.2 ?_;dsimp only[BU,aQ];refine bH a fun r w' a=>?_;refine ah a 0 rfl bb aw rfl ?_;refine bn ?_;refine aS (fun hk=>?_) (fun hk=>?_)
 ·have j:eV (.mk k n s ks)=(decide (0<=n) && (decide (n<=25) && (decide (s=emptyB) && decide (ks.length=0)))):=by
   rw [eV]; exact af hk
  refine ah a 0 rfl aV aw rfl ?_;refine lj ?_;refine jv (fun g=>?_) (fun g=>?_)
  ·refine ah a 0 rfl aV aw rfl ?_;refine fY ?_;refine gM g ?_;refine jv (fun i=>?_) (fun i=>?_)
   ·refine ah a 0 rfl bk aZ rfl ?_;refine cM ?_;refine gM i ?_;refine jv (fun l=>?_) (fun l=>done a ?_)
    ·refine ah a 0 rfl ay ax rfl ?_;refine aG o ao ?_;refine bn ?_;refine gM l (done a ?_);rw [j,g,i,show decide (s=emptyB)=true from l];simp
    ·rw [j,g,i,show decide (s=emptyB)=false from l]; rfl
   ·refine nu (done a ?_);rw [j,g,i]; rfl
  ·refine nu (nu (done a ?_));rw [j,g]; rfl
 refine bn ?_;refine aS (fun m=>?_) (fun m=>?_)
 ·have j:eV (.mk k n s ks)=(decide (-999<=n) && (decide (n<=999) && (decide (s=emptyB) && decide (ks.length=0)))):=by
   rw [eV]; exact (ae hk).trans (af m)
  refine ah a 0 rfl aV aw rfl ?_;refine lj ?_;refine jv (fun g=>?_) (fun g=>?_)
  ·refine ah a 0 rfl aV aw rfl ?_;refine fY ?_;refine gM g ?_;refine jv (fun i=>?_) (fun i=>?_)
   ·refine ah a 0 rfl bk aZ rfl ?_;refine cM ?_;refine gM i ?_;refine jv (fun l=>?_) (fun l=>done a ?_)
    ·refine ah a 0 rfl ay ax rfl ?_;refine aG o ao ?_;refine bn ?_;refine gM l (done a ?_);rw [j,g,i,show decide (s=emptyB)=true from l];simp
    ·rw [j,g,i,show decide (s=emptyB)=false from l]; rfl
   ·refine nu (done a ?_);rw [j,g,i]; rfl
  ·refine nu (nu (done a ?_));rw [j,g]; rfl
 refine bn ?_;refine aS (fun p=>?_) (fun p=>done a ?_)
 ·have j:eV (.mk k n s ks)=(decide (n=0) && (gJ s && decide (ks.length<=4))):=by
   rw [eV]; exact (ae hk).trans ((ae m).trans (af p))
  refine ah a 0 rfl aV aw rfl ?_;refine bn ?_;refine jv (fun g=>?_) (fun g=>?_)
  ·refine ah a 0 rfl bk aZ rfl ?_;refine Run.callPure Ag Cm a (xj s q S) fun w' a=>?_;refine gM g ?_;refine jv (fun i=>?_) (fun i=>done a ?_)
   ·refine ah a 0 rfl ay ax rfl ?_;refine aG o ao ?_;refine fY ?_;refine gM i (done a ?_);rw [j,g,i];simp;omega
   ·rw [j,g,i]; rfl
  ·refine nu (done a ?_);rw [j,g]; rfl
 ·rw [eV];exact congrArg Value.bool ((ae hk).trans ((ae m).trans (ae p))).symm

theorem Cu:∀ (t:T) (S:ag) (cs:List Value) (d:Int),RdT S cs t->-1<=d->d<=1000->Pure Tryz.prog Ho [.agg cs.toArray,.int .i64 d] S (.bool (dx t d)):=by
 refine T.ind fun k n s ks O S cs d h Z h1=>?_;intro w a;have G:=h;obtain ⟨kv,rfl,_,_,U,m⟩:=RdT.iff.1 h;simp only [T.name,T.kids,T.kind,T.n] at U m ⊢;have B:=m.le;simp only [maxLen] at B;refine uK.2 ?_;dsimp only[uK,bm];refine bH a fun J w' a=>?_;refine ⟨fun t w'=>t=.bool (decide (d<1) || !eV (.mk k n s ks))/\Inv w [] [.blk J (.cells #[.int .i64 k,.int .i64 n,.string s,kv] ac)] S w',?_,?_⟩
 ·refine cu ?_;refine FB (fun h=>⟨by rw [h]; rfl,a⟩) (fun h=>?_);refine aq a 0 ad rfl rfl ?_;refine Run.callPure Js Ku a (Ha G) fun w' a=>?_;refine cU ?_;exact yF h ⟨by rw [h]; rfl,a⟩
 intro t _ _ _ _ _ _ w';rintro ⟨rfl,a⟩;refine aI (fun q=>done a ?_) (fun q=>?_)
 ·rw [dx];by_cases p:d<1
  ·rw [af p]
  ·rw [ae p];simp [p] at q;rw [q]; rfl
 have p:¬ d<1:=fun h=>by simp [h] at q
 have N:eV (.mk k n s ks)=true:=by simp [p] at q; exact q
 refine ⟨fun i w'=>∃ j:Nat,j<=ks.length/\i=.int .i64 j/\dj (ks.drop j) (d - 1)=dj ks (d - 1)/\Inv w [] [.blk J (.cells #[.int .i64 k,.int .i64 n,.string s,kv] ac)] S w',
  fun i _=>ks.length - (intOf i).toNat,⟨0,aK _,rfl,rfl,a⟩,?_⟩
 intro V _ _ _ _ _ _ _ _ _ _ _ _ _ _ _ _ _ w';rintro ⟨j,Y,rfl,g,a⟩;refine ah a 0 rfl ay ax rfl ?_;refine aG m ao ?_;refine cu ?_;refine aS (fun C=>?_) (fun C=>?_)
 ·have o:j<ks.length:=by omega
  have l:dj (ks.drop j) (d - 1)=(dx ks[j] (d - 1) && dj (ks.drop (j+1)) (d - 1)):=by
   rw [dR o,dj]
  refine ah a 0 rfl ay ax rfl ?_;refine dy a m ao ad o (fun _ _=>RdT.length) fun D r=>?_;refine jx (by omega) ?_;refine Run.callPure vH uv a (O _ (cH o) S D (d - 1) r (by omega) (by omega)) fun w' a=>?_;refine cU ?_;refine aI (fun u=>done a ?_) (fun M=>?_)
  ·simp at u;rw [dx,ae p,N,<- g,l,u]; rfl
  ·simp at M;refine bF (by omega) ?_;exact ⟨⟨j+1,o,rfl,by rw [<- g,l,M]; rfl,a⟩,by simp [intOf]; omega⟩
 ·have:j=ks.length:=by omega
  subst this;refine done a ?_;rw [dx,ae p,N,<- g,ew,dj]; rfl

theorem sM:∀ (ts:List T) (j:Nat) (h:j<ts.length),bi (ts.drop j)=bM ts[j]+bi (ts.drop (j+1)):=by
 intro ts j h;rw [dR h,bi]
theorem CR:∀ (t:T) (S:ag) (cs:List Value) (a:Int),RdT S cs t->0<=a->a<=1000->bM t<=4611686018427387904->Pure Tryz.prog IJ [.agg cs.toArray,.int .i64 a] S (.int .i64 (jN t a)):=by
 refine T.ind fun k n s ks U S cs a h h0 h1 hc=>?_;intro w l;obtain ⟨kv,rfl,_,_,V,o⟩:=RdT.iff.1 h;simp only [T.name,T.kids,T.kind,T.n] at V o ⊢;have u:=o.le;simp only [maxLen] at u;rw [show bM (T.mk k n s ks)=1+bi ks from rfl] at hc;refine vN.2 ?_;dsimp only[vN,bm];refine bH l fun J w' l=>?_;refine ⟨fun i m w'=>∃ (j:Nat) (c:Int),j<=ks.length/\i=.int .i64 j/\m=.int .i64 c/\1<=c/\c+bi (ks.drop j)<=1+bi ks/\gi (ks.drop j) c a=gi ks 1 a/\Inv w [] [.blk J (.cells #[.int .i64 k,.int .i64 n,.string s,kv] ac)] S w',
  fun i _ _=>ks.length - (intOf i).toNat,⟨0,1,aK _,rfl,rfl,by omega,by rw [dT]; omega,rfl,l⟩,?_⟩
 intro t6 _ _ t5 _ _ _ _ _ _ _ _ _ _ _ _ _ _ _ _ _ _ _ _ _ w';rintro ⟨j,c,hj,rfl,rfl,N,O,p,l⟩;refine ⟨fun t w'=>t=.bool (decide (j<ks.length) && decide (c<=a))/\Inv w [] [.blk J (.cells #[.int .i64 k,.int .i64 n,.string s,kv] ac)] S w',?_,?_⟩
 ·refine ah l 0 rfl ay ax rfl ?_;refine aG o ao ?_;refine cu ?_;refine jv (fun h=>?_) (fun h=>⟨?_,l⟩)
  ·refine fY ?_;refine gM h ⟨?_,l⟩;rw [aP (show j<ks.length from by have:=of_decide_eq_true h; omega)]; rfl
  ·rw [bf (show ¬ j<ks.length from by have:=of_decide_eq_false h; omega)]; rfl
 intro t _ _ _ _ _ _ _ _ _ w';rintro ⟨rfl,l⟩;refine aI (fun C=>?_) (fun C=>done l ?_)
 ·simp at C;obtain ⟨g,G⟩:=C;have Y:=sM ks j g;have q:gi (ks.drop j) c a=gi (ks.drop (j+1)) (c+jN ks[j] (a - c)) a:=by
   rw [dR g,gi,af G]
  have B:=wj ks[j] (a - c) (by omega);have hp:=cZ ks[j];have Z:=bU (ks.drop (j+1));have M:1<=jN ks[j] (a - c)/\jN ks[j] (a - c)<=bM ks[j]:=by
   by_cases hq:bM ks[j]<=a - c
   ·rw [B.1 hq]; omega
   ·have:=B.2 (by omega); omega
  refine ah l 0 rfl ay ax rfl ?_;refine dy l o ao ad g (fun _ _=>RdT.length) fun D r=>?_;refine jx (by omega) ?_;refine Run.callPure vg tN l (U _ (cH g) S D (a - c) r (by omega) (by omega) (by omega)) fun w' l=>?_;refine bF (by omega) ?_;refine bF (by omega) ?_;exact ⟨⟨j+1,_,g,rfl,rfl,by omega,by omega,by rw [<- p,q],l⟩,by simp [intOf]; omega⟩
 ·show Value.int .i64 c=Value.int .i64 (gi ks 1 a);rw [<- p];by_cases g:j<ks.length
  ·simp [g] at C;rw [dR g,gi,ae (by omega)]
  ·rw [Cj (by omega),gi]

mutual
theorem NR:∀ t:T,bM t<=1+(wT t:Int)
 | .mk k n s ks=>by
  rw [show bM (T.mk k n s ks)=1+bi ks from rfl,wT];have:=Kt ks;omega
theorem Kt:∀ ts:List T,bi ts<=ts.length+(wL ts:Int)
 | []=>by simp [bi,wL]
 | t::ts=>by
  rw [show bi (t::ts)=bM t+bi ts from rfl,wL,aO];have:=NR t; have:=Kt ts;omega
end

theorem mF {t:T} {S:ag} {cs:List Value} (h:RdT S cs t) (hc:bM t<=4611686018427387904):Pure Tryz.prog C3 [.agg cs.toArray] S (.bool (cA t)):=by
 intro w a;have i:=h.length;refine pF.2 ?_;dsimp only[pF,aQ];refine bH a fun j w' a=>?_;refine aq a 0 ad rfl (by simpa [Value.cells] using i) ?_;refine Run.callPure vH uv a (Cu t S cs 30 h (by omega) (by omega)) fun w' a=>?_;refine jv (fun g=>?_) (fun g=>done a ?_)
 ·refine aq a 0 ad rfl (by simpa [Value.cells] using i) ?_;refine Run.callPure vg tN a (CR t S cs 120 h (by omega) (by omega) hc) fun w' a=>?_;refine fY ?_;refine gM g (done a ?_);rw [cA,g,MH]; rfl
 ·rw [cA,g]; rfl
end
section
open Go Go.RowKit
attribute [local irreducible] Run CondV aC aU

def cw {α σ:Type} (step:σ->α->Bool × σ):σ->List α->Nat->Int × σ
 | st,[],_=>(-1,st)
 | st,x::xs,k=>if (step st x).1 then ((k:Int),(step st x).2) else cw step (step st x).2 xs (k+1)
def rf {α σ:Type} (step:σ->α->Bool × σ):σ->List α->Bool × σ
 | st,[]=>(false,st)
 | st,x::xs=>if (step st x).1 then (true,(step st x).2) else rf step (step st x).2 xs
theorem li {α σ:Type} (step:σ->α->Bool × σ):∀ (xs:List α) (st:σ) (k:Nat),decide (0<=(cw step st xs k).1)=(rf step st xs).1/\(cw step st xs k).2=(rf step st xs).2
 | [],st,k=>by simp [cw,rf]
 | x::xs,st,k=>by
  by_cases h:(step st x).1=true
  ·simp [cw,rf,h]
  ·simpa [cw,rf,h] using li step xs (step st x).2 (k+1)
theorem mY {α:Type} (p:α->Bool):∀ xs:List α,rf (σ:=Unit) (fun _ x=>(p x,())) () xs=(xs.any p,())
 | []=>rfl
 | x::xs=>by
  simp only [rf,fm];cases h:p x with
  | true=>rfl
  | false=>rw [mY p xs]; rfl
abbrev fv (f:FuncId) (cap:List Value):Value:=.func (.func f) #[] cap.toArray
section
variable {P:Program} {w w0:World} {X:List Nat} {A I:List Item} {S:ag} {K:Value->World->Prop}
theorem Dx {P:Program} {f:FuncId} {fn:Func} {cap args:List Value} {w:World} (hf:P.funcs[f]?=some fn) (hn:(fn.name == "runtime.NumGoroutine" || fn.body.isNone)=false) :
  (fa (fv f cap) args).run P w=.ok (.enter f (args++cap).toArray) w:=by
 simp only [LE] at hn
 have a:¬ fn.name = "runtime.NumGoroutine" := by simpa using hn.1
 have g:¬ fn.body=none:=fun e=>by rw [e] at hn; simp at hn
 simp [fa,Deferred.ofValue,invoke,callFunc,hf,a,g]
theorem Run.callV {f:FuncId} {fn:Func} {cap args:List Value} {Post:Value->List Item->ag->Prop}
  (hf:P.funcs[f]?=some fn) (hn:(fn.name == "runtime.NumGoroutine" || fn.body.isNone)=false) (h:Inv w0 X (A++I) S w) (hc:Tri P f (args++cap) I S Post)
  (hk:∀ v I' S' w',Post v I' S'->Sle S S'->Inv w0 X (A++I') S' w'->K v w'):Run P (fa (fv f cap) args) w K:=by
 unfold Run;rw [Dx hf hn];refine (hc w (h.sub (dU A I)).begin).mono ?_;rintro e w' ⟨v,I',S',rfl,g,a,i⟩;exact hk v I' S' w' i a.1 (Inv.step h g a.2)
end
structure Cb (P:Program) (f:FuncId) (fn:Func) {α σ:Type} (cap:List Value) (S:ag) (It:σ->List Item) (ok:σ->Prop) (step:σ->α->Bool × σ) (R:Value->α->Prop) (xs:List α):Prop where
 hf:P.funcs[f]?=some fn
 hn:(fn.name == "runtime.NumGoroutine" || fn.body.isNone)=false
 keep:∀ st x,x∈xs->ok st->(step st x).1=false->ok (step st x).2
 call:∀ st x v,x∈xs->ok st->R v x->Tri P f (v::cap) (It st) S fun r I' S'=>r=.bool (step st x).1/\I'=It (step st x).2/\S'=S
theorem Cb.pure {P:Program} {f:FuncId} {fn:Func} {α:Type} {cap:List Value} {S:ag} {p:α->Bool} {R:Value->α->Prop} {xs:List α} (L:List Item) (hf:P.funcs[f]?=some fn) (hn:(fn.name == "runtime.NumGoroutine" || fn.body.isNone)=false)
  (h:∀ x v,x∈xs->R v x->Tri P f (v::cap) L S fun r I' S'=>r=.bool (p x)/\I'=L/\S'=S):Cb P f fn cap S (fun _:Unit=>L) (fun _=>True) (fun _ x=>(p x,())) R xs:=
 ⟨hf,hn,fun _ _ _ _ _=>trivial,fun _ x v a _ hR=>h x v a hR⟩

theorem tS {σ:Type} {f:FuncId} {fn:Func} {cap:List Value} {S:ag} {It:σ->List Item} {ok:σ->Prop} {step:σ->T->Bool × σ} {xs:List T} {v:Value}
  (l:Cb Tryz.prog f fn cap S It ok step (fun v x=>∃ cs,v=.agg cs.toArray/\RdT S cs x) xs) (h:RdSl S 4 (RdT S) v xs) {st:σ} (u:ok st) :
  Tri Tryz.prog ld [v,fv f cap] (It st) S fun r I' S'=>r=.int .i64 (cw step st xs 0).1/\I'=It (cw step st xs 0).2/\S'=S:=by
 intro w o;have q:=h.le;simp only [maxLen] at q;refine fl.2 ?_;dsimp only[fl,bm];refine aG h ao ?_;refine ⟨fun i w'=>∃ (k:Nat) (g:σ),k<=xs.length/\i=.int .i64 k/\ok g/\cw step g (xs.drop k) k=cw step st xs 0/\Inv w (bT (It st)) (It g) S w',fun i _=>xs.length - (intOf i).toNat,
  ⟨0,st,aK _,rfl,u,rfl,o⟩,?_⟩
 intro G _ _ _ _ _ _ _ _ _ _ _ _ w';rintro ⟨k,g,hk,rfl,p,j,o⟩;refine cu ?_;refine aS (fun B=>?_) (fun B=>?_)
 ·have m:k<xs.length:=by omega
  have D:=cH m;have a:cw step g (xs.drop k) k=if (step g xs[k]).1 then ((k:Int),(step g xs[k]).2) else cw step (step g xs[k]).2 (xs.drop (k+1)) (k+1):=by
   rw [dR m,cw]
  refine dy o h ao ad m (fun _ _=>RdT.length) fun cs C=>?_;refine Run.callV (A:=[]) (args:=[.agg cs.toArray]) l.hf l.hn (by simpa using o) (l.call g _ _ D p ⟨cs,rfl,C⟩) fun v' I' S' w'=>?_;rintro ⟨rfl,rfl,rfl⟩ _ o;refine aI (fun t=>?_) (fun t=>?_)
  ·rw [af t] at a;refine ⟨_,_,_,rfl,by simpa using o,Ext.refl _ _ _,?_,?_,rfl⟩
   ·rw [<- j,a]
   ·rw [<- j,a]
  ·refine bF (by omega) ?_;rw [t] at a;refine ⟨⟨k+1,_,m,rfl,l.keep g _ D p t,?_,by simpa using o⟩,by simp [intOf]; omega⟩;rw [<- j,a];rfl
 ·have:k=xs.length:=by omega
  subst this;rw [ew,cw] at j;exact ⟨_,_,_,rfl,o,Ext.refl _ _ _,by rw [<- j],by rw [<- j],rfl⟩
theorem jI {σ:Type} {f:FuncId} {fn:Func} {cap:List Value} {S:ag} {It:σ->List Item} {ok:σ->Prop} {step:σ->T->Bool × σ} {xs:List T} {v:Value}
  (a:Cb Tryz.prog f fn cap S It ok step (fun v x=>∃ cs,v=.agg cs.toArray/\RdT S cs x) xs) (h:RdSl S 4 (RdT S) v xs) {st:σ} (g:ok st) :
  Tri Tryz.prog iU [v,fv f cap] (It st) S fun r I' S'=>r=.bool (rf step st xs).1/\I'=It (rf step st xs).2/\S'=S:=by
 intro w i;refine eF.2 ?_;dsimp only[eF,bm];refine Run.call (A:=[]) jT jQ (by simpa using i) (tS a h g) fun v' I' S' w'=>?_;rintro ⟨rfl,rfl,rfl⟩ _ i;refine lj ?_;have j:=li step xs st 0;exact ⟨_,_,_,rfl,by simpa using i,Ext.refl _ _ _,by rw [j.1],by rw [j.2],rfl⟩
theorem rg {σ:Type} {f:FuncId} {fn:Func} {cap:List Value} {S:ag} {It:σ->List Item} {ok:σ->Prop} {step:σ->C->Bool × σ} {xs:List C} {v:Value}
  (l:Cb Tryz.prog f fn cap S It ok step (fun v x=>∃ cs,v=.agg cs.toArray/\RdC S cs x) xs) (h:RdSl S 5 (RdC S) v xs) {st:σ} (u:ok st) :
  Tri Tryz.prog po [v,fv f cap] (It st) S fun r I' S'=>r=.int .i64 (cw step st xs 0).1/\I'=It (cw step st xs 0).2/\S'=S:=by
 intro w o;have q:=h.le;simp only [maxLen] at q;refine iS.2 ?_;dsimp only[iS,bm];refine aG h ct ?_;refine ⟨fun i w'=>∃ (k:Nat) (g:σ),k<=xs.length/\i=.int .i64 k/\ok g/\cw step g (xs.drop k) k=cw step st xs 0/\Inv w (bT (It st)) (It g) S w',fun i _=>xs.length - (intOf i).toNat,
  ⟨0,st,aK _,rfl,u,rfl,o⟩,?_⟩
 intro J _ _ _ _ _ _ _ _ _ _ _ _ w';rintro ⟨k,g,hk,rfl,p,j,o⟩;refine cu ?_;refine aS (fun B=>?_) (fun B=>?_)
 ·have m:k<xs.length:=by omega
  have G:=cH m;have a:cw step g (xs.drop k) k=if (step g xs[k]).1 then ((k:Int),(step g xs[k]).2) else cw step (step g xs[k]).2 (xs.drop (k+1)) (k+1):=by
   rw [dR m,cw]
  refine dy o h ct aN m (fun _ _=>RdC.length) fun cs D=>?_;refine Run.callV (A:=[]) (args:=[.agg cs.toArray]) l.hf l.hn (by simpa using o) (l.call g _ _ G p ⟨cs,rfl,D⟩) fun v' I' S' w'=>?_;rintro ⟨rfl,rfl,rfl⟩ _ o;refine aI (fun t=>?_) (fun t=>?_)
  ·rw [af t] at a;refine ⟨_,_,_,rfl,by simpa using o,Ext.refl _ _ _,?_,?_,rfl⟩
   ·rw [<- j,a]
   ·rw [<- j,a]
  ·refine bF (by omega) ?_;rw [t] at a;refine ⟨⟨k+1,_,m,rfl,l.keep g _ G p t,?_,by simpa using o⟩,by simp [intOf]; omega⟩;rw [<- j,a];rfl
 ·have:k=xs.length:=by omega
  subst this;rw [ew,cw] at j;exact ⟨_,_,_,rfl,o,Ext.refl _ _ _,by rw [<- j],by rw [<- j],rfl⟩
theorem nC {σ:Type} {f:FuncId} {fn:Func} {cap:List Value} {S:ag} {It:σ->List Item} {ok:σ->Prop} {step:σ->C->Bool × σ} {xs:List C} {v:Value}
  (a:Cb Tryz.prog f fn cap S It ok step (fun v x=>∃ cs,v=.agg cs.toArray/\RdC S cs x) xs) (h:RdSl S 5 (RdC S) v xs) {st:σ} (g:ok st) :
  Tri Tryz.prog m7 [v,fv f cap] (It st) S fun r I' S'=>r=.bool (rf step st xs).1/\I'=It (rf step st xs).2/\S'=S:=by
 intro w i;refine gT.2 ?_;dsimp only[gT,bm];refine Run.call (A:=[]) oF oO (by simpa using i) (rg a h g) fun v' I' S' w'=>?_;rintro ⟨rfl,rfl,rfl⟩ _ i;refine lj ?_;have j:=li step xs st 0;exact ⟨_,_,_,rfl,by simpa using i,Ext.refl _ _ _,by rw [j.1],by rw [j.2],rfl⟩
end
section
open Go Go.RowKit
attribute [local irreducible] Run CondV aC aU

theorem fL (n low a:Int) (S:ag):Pure Tryz.prog sU [.int .i64 n,.int .i64 low,.int .i64 a] S (.bool (decide (low<=n) && decide (n<=a))):=by
 intro w g;refine y5.2 ?_;dsimp only[y5,fB];refine fY ?_;refine jv (fun h=>?_) (fun h=>done g (by rw [h]; rfl));refine fY ?_;exact gM h (done g (by rw [h]; rfl))
theorem og (s:ByteArray) (p:s.size<=maxLen) (S:ag):Pure Tryz.prog C7 [.string s] S (.bool (lx s)):=by
 intro w l;simp only [maxLen] at p;refine qc.2 ?_;dsimp only[qc,aQ];refine kJ aR ?_;refine ⟨fun i w'=>∃ k:Nat,k<=s.size/\i=.int .i64 k/\(s.data.toList.drop k).all pc=o9 s/\Inv w [] [] S w',fun i _=>s.size - (intOf i).toNat,⟨0,aK _,rfl,rfl,l⟩,?_⟩;intro r _ _ _ _ _ _ _ _ _ _ _ _ _ _ _ w';rintro ⟨k,hk,rfl,g,l⟩;refine cu ?_;refine aS (fun m=>?_) (fun m=>?_)
 ·have j:k<s.size:=by omega
  have a:=GY pc s.data.toList k (by rw [ne]; exact j);rw [GN s k j] at a;refine ⟨fun t w'=>t=.bool (!pc s[k])/\Inv w [] [] S w',?_,?_⟩
  ·refine kR aR j ?_;refine cu ?_;refine FB (fun h=>⟨?_,l⟩) (fun h=>?_)
   ·have h:=of_decide_eq_true h;rw [pc,bf (show ¬ 97<=s[k].toNat by omega)]; rfl
   ·refine kR aR j ?_;refine fC ?_;refine yF h ⟨?_,l⟩;have h:=of_decide_eq_false h;rw [pc,aP (show 97<=s[k].toNat by omega),eL];by_cases o:s[k].toNat<=122
    ·rw [aP o,bf (by omega)]; rfl
    ·rw [bf o,aP (by omega)]; rfl
  intro t _ _ _ _ _ _ _ _ _ w';rintro ⟨rfl,l⟩;refine aI (fun h=>done l ?_) (fun h=>?_)
  ·simp at h;rw [lx,<- g,a,h]; rfl
  ·simp at h;refine bF (by omega) ?_;refine ⟨⟨k+1,j,rfl,by rw [<- g,a,h]; rfl,l⟩,by simp [intOf]; omega⟩
 ·have:k=s.size:=by omega
  subst this;have q:o9 s=true:=by rw [<- g,<- ne,ew]; rfl
  refine kJ aR ?_;refine Run.callPure gf gr l (fL _ _ _ S) fun w' l=>done l ?_;rw [lx,q,eL]
  congr 1
  rw [rZ];simp;omega
theorem Dm (S:ag):Tri Tryz.prog Hz [] [] S (DA S):=by
 intro w g;refine vx.2 ?_;dsimp only[vx,oD];refine sW (v:=fun b=>.slice (some ⟨b,0,none⟩) 15 15) (o:=.cells wu fb) g (by kernel_rfl) fun b w' g=>?_;have a:w.heap.size<=b:=by
  rcases g.new b (by simp [bT,Item.foot]) with h|h
  ·simp [bT] at h
  ·exact h
 obtain ⟨j,i⟩:=Inv.publishLast (L:=[]) g;exact ⟨_,_,_,rfl,j,HX a i,rfl,i,Il (by simp [nl]; rfl)⟩
theorem ss (s:ByteArray) {xs:List ByteArray} {S:ag} {v:Value} (h:RdSl S 1 y0 v xs) :
  Pure Tryz.prog wk [v,.string s] S (.int .i64 (cw (σ:=Unit) (fun _ x=>(decide (x=s),())) () xs 0).1):=by
 intro w j;have l:=h.le;simp only [maxLen] at l;refine lG.2 ?_;dsimp only[lG,bm];refine aG h de ?_;refine ⟨fun i w'=>∃ k:Nat,k<=xs.length/\i=.int .i64 k/\cw (σ:=Unit) (fun _ x=>(decide (x=s),())) () (xs.drop k) k=cw (σ:=Unit) (fun _ x=>(decide (x=s),())) () xs 0/\Inv w [] [] S w',
  fun i _=>xs.length - (intOf i).toNat,⟨0,aK _,rfl,rfl,j⟩,?_⟩
 intro q _ _ _ _ _ _ _ _ _ _ _ _ w';rintro ⟨k,hk,rfl,a,j⟩;refine cu ?_;refine aS (fun m=>?_) (fun m=>?_)
 ·have g:k<xs.length:=by omega
  rw [dR g,cw] at a;refine lr j h de aZ g (fun cs o=>o) ?_;refine cM ?_;refine aS (fun p=>done j ?_) (fun p=>?_)
  ·rw [<- a,af (by simpa using p.symm)]
  ·refine bF (by omega) ?_;rw [ae (by simpa using fun e=>p e.symm)] at a;exact ⟨⟨k+1,g,rfl,a,j⟩,by simp [intOf]; omega⟩
 ·have:k=xs.length:=by omega
  subst this;rw [ew,cw] at a;exact done j (by rw [<- a])
theorem oM (s:ByteArray) {xs:List ByteArray} {S:ag} {v:Value} (h:RdSl S 1 y0 v xs) :
  Pure Tryz.prog re [v,.string s] S (.bool (xs.any fun x=>decide (x=s))):=by
 intro w a;refine jq.2 ?_;dsimp only[jq,bm];refine Run.callPure tI ui a (ss s h) fun w' a=>?_;refine lj (done a ?_);rw [(li _ xs () 0).1,mY]
theorem xk (s:ByteArray) (i:s.size<=maxLen) (S:ag):Pure Tryz.prog Cx [.string s] S (.bool (gJ s)):=by
 intro w a;refine qb.2 ?_;dsimp only[qb,aQ];refine Run.callPure qn oX a (og s i S) fun w' a=>?_;refine FB (fun h=>done a ?_) (fun h=>?_)
 ·rw [gJ,h]; rfl
 ·refine Run.call0 EK Gc a (Dm S) fun v' I' S' w'=>?_;rintro ⟨rfl,_,j⟩ g a;refine Run.callPure oZ p9 a (oM s j) fun w' a=>?_;refine yF h (yp a g ?_);rw [gJ,h]; rfl

abbrev jM (b:Nat) (c:Int):Item:=.blk b (.cells #[.int .i64 c] bD)
abbrev tz (bc:Nat) (S:ag) (r:Bool × Int):Value->List Item->ag->Prop:=fun v I' S'=>v=.bool r.1/\I'=[jM bc r.2]/\S'=S
theorem GR:∀ (t:T) (a c:Int),c<=120->(fA t a c).1=true->c<(fA t a c).2/\(fA t a c).2<=120:=by
 intro t a c hc h;have:=Aw t a c;rw [this.2 h];have g:=this.1;rw [h] at g;have i:=g.symm;simp at i;have:=cZ t;omega
theorem Ep (a:Int):∀ (ks:List T) (c:Int),rf (fun c t=>(!(fA t a c).1,(fA t a c).2)) c ks=(!(lh ks a c).1,(lh ks a c).2)
 | [],c=>by simp [rf,lh]
 | t::ts,c=>by
  by_cases h:(fA t a c).1=true
  ·simp [rf,lh,h,Ep a ts]
  ·simp [rf,lh,h]

theorem KJ:∀ (t:T) (S:ag) (cs:List Value) (a c:Int) (i:Nat),RdT S cs t->0<=a->a<=31->0<=c->c<=120->
  Tri Tryz.prog Ow [.agg cs.toArray,.int .i64 a,.pointer (some ⟨i,0,none⟩)] [jM i c] S (tz i S (fA t a c)):=by
 refine T.ind fun k n s ks ih S cs a c i h a2 a3 a4 a5=>?_;intro w g;obtain ⟨kv,rfl,_,_,hs,B⟩:=RdT.iff.1 h;simp only [T.name,T.kids,T.kind,T.n] at hs B ⊢;have m:∀ {L:List Item} {w':World} {v:Value} (r:Bool × Int),Inv w (bT [jM i c]) (jM i r.2::L) S w'->v=.bool r.1->r=fA (.mk k n s ks) a c->
   ∃ v' I' S',Ending.returned v=.returned v'/\Inv w (bT [jM i c]) I' S' w'/\Ext w.heap.size (bT [jM i c]) S S'/\tz i S (fA (.mk k n s ks) a c) v' I' S':=by
  intro L w' v r h1 o p;subst p;exact ⟨_,_,_,rfl,h1.pick [true],Ext.refl _ _ _,o,rfl,rfl⟩
 refine DK.2 ?_;dsimp only[DK,fB];refine bH g fun b3 w' g=>?_;refine bH g fun N w' g=>?_;refine bH g fun O w' g=>?_;refine aD g 3 E8 rfl rfl ?_;refine aL ?_;refine aD g 0 aw rfl rfl ?_;refine bF (by omega) ?_;refine aL ?_;refine ef g 0 (n:=1) rfl (by rw [aw]; rfl) rfl (Ce rfl) (by simp [Value.cells]; rfl) fun w' g=>?_;refine ⟨fun t w'=>t=.bool (decide (120<c+1 ∨ 30<a))/\Inv w (bT [jM i c]) [jM i (c+1),.blk b3 (.cells #[.int .i64 k,.int .i64 n,.string s,kv] ac),.blk N (.cells #[.int .i64 a] bD),.blk O (.cells #[.pointer (some ⟨i,0,none⟩)] nF)] S w',?_,?_⟩
 ·refine aD g 3 E8 rfl rfl ?_;refine aL ?_;refine aD g 0 aw rfl rfl ?_;refine fC ?_;refine FB (fun h=>⟨?_,g⟩) (fun h=>?_)
  ·have h:=of_decide_eq_true h;rw [aP (show 120<c+1 ∨ 30<a from .inl h)]
  ·refine aD g 2 aw rfl rfl ?_;refine fC ?_;refine yF h ⟨?_,g⟩;have h:=of_decide_eq_false h
   congr 1
   rw [rZ];simp;omega
 intro t _ _ _ _ _ _ _ w';rintro ⟨rfl,g⟩;refine aS (fun Y=>?_) (fun Y=>?_)
 ·exact m (false,c+1) g rfl (by rw [fA,af Y])
 have C:∀ r,(if k=1 ∨ k=2 then (eV (.mk k n s ks),c+1) else if k=3 then (if eV (.mk k n s ks) then lh ks (a+1) (c+1) else (false,c+1)) else (false,c+1))=r->r=fA (.mk k n s ks) a c:=by
  intro r hr;rw [fA,ae Y,hr]
 refine ah g 1 rfl bb aw rfl ?_;refine bn ?_;refine aS (fun hk=>?_) (fun hk=>?_)
 ·have D:eV (.mk k n s ks)=(decide (0<=n) && (decide (n<=25) && (decide (s=emptyB) && decide (ks.length=0)))):=by
   rw [eV]; exact af hk
  have l:∀ {w':World} {b:Bool},Inv w (bT [jM i c]) [jM i (c+1),.blk b3 (.cells #[.int .i64 k,.int .i64 n,.string s,kv] ac),.blk N (.cells #[.int .i64 a] bD),.blk O (.cells #[.pointer (some ⟨i,0,none⟩)] nF)] S w'->
    b=eV (.mk k n s ks)->∃ v' I' S',Ending.returned (.bool b)=.returned v'/\Inv w (bT [jM i c]) I' S' w'/\Ext w.heap.size (bT [jM i c]) S S'/\tz i S (fA (.mk k n s ks) a c) v' I' S':=
   fun g Y=>m (_,c+1) g (by rw [Y]) (C _ (af (.inl hk)))
  refine ah g 1 rfl aV aw rfl ?_;refine Run.callPure gf gr g (fL _ _ _ S) fun w' g=>?_;refine jv (fun o=>?_) (fun o=>?_)
  ·have j:=o;rw [bJ] at j;refine ah g 1 rfl bk aZ rfl ?_;refine cM ?_;refine gM o ?_;refine jv (fun p=>?_) (fun p=>l g ?_)
   ·refine ah g 1 rfl ay ax rfl ?_;refine aG B ao ?_;refine bn ?_;refine gM p (l g ?_);rw [D,j.1,j.2,show decide (s=emptyB)=true from p];simp
   ·rw [D,j.1,j.2,show decide (s=emptyB)=false from p]; rfl
  ·refine nu (l g ?_);rw [D,<- Bool.and_assoc,o]; rfl
 refine bn ?_;refine aS (fun q=>?_) (fun q=>?_)
 ·have D:eV (.mk k n s ks)=(decide (-999<=n) && (decide (n<=999) && (decide (s=emptyB) && decide (ks.length=0)))):=by
   rw [eV]; exact (ae hk).trans (af q)
  have l:∀ {w':World} {b:Bool},Inv w (bT [jM i c]) [jM i (c+1),.blk b3 (.cells #[.int .i64 k,.int .i64 n,.string s,kv] ac),.blk N (.cells #[.int .i64 a] bD),.blk O (.cells #[.pointer (some ⟨i,0,none⟩)] nF)] S w'->
    b=eV (.mk k n s ks)->∃ v' I' S',Ending.returned (.bool b)=.returned v'/\Inv w (bT [jM i c]) I' S' w'/\Ext w.heap.size (bT [jM i c]) S S'/\tz i S (fA (.mk k n s ks) a c) v' I' S':=
   fun g Y=>m (_,c+1) g (by rw [Y]) (C _ (af (.inr q)))
  refine ah g 1 rfl aV aw rfl ?_;refine Run.callPure gf gr g (fL _ _ _ S) fun w' g=>?_;refine jv (fun o=>?_) (fun o=>?_)
  ·have j:=o;rw [bJ] at j;refine ah g 1 rfl bk aZ rfl ?_;refine cM ?_;refine gM o ?_;refine jv (fun p=>?_) (fun p=>l g ?_)
   ·refine ah g 1 rfl ay ax rfl ?_;refine aG B ao ?_;refine bn ?_;refine gM p (l g ?_);rw [D,j.1,j.2,show decide (s=emptyB)=true from p];simp
   ·rw [D,j.1,j.2,show decide (s=emptyB)=false from p]; rfl
  ·refine nu (l g ?_);rw [D,<- Bool.and_assoc,o]; rfl
 refine bn ?_;have G:¬ (k=1 ∨ k=2):=fun h=>h.elim hk q;refine aS (fun u=>?_) (fun u=>?_)
 ·have D:eV (.mk k n s ks)=(decide (n=0) && (gJ s && decide (ks.length<=4))):=by
   rw [eV]; exact (ae hk).trans ((ae q).trans (af u))
  refine ⟨fun t w'=>t=.bool (!eV (.mk k n s ks))/\Inv w (bT [jM i c]) [jM i (c+1),.blk b3 (.cells #[.int .i64 k,.int .i64 n,.string s,kv] ac),.blk N (.cells #[.int .i64 a] bD),.blk O (.cells #[.pointer (some ⟨i,0,none⟩)] nF)] S w',?_,?_⟩
  ·refine ah g 1 rfl aV aw rfl ?_;refine pu ?_;refine FB (fun h1=>?_) (fun h1=>?_)
   ·have V:decide (n=0)=false:=by simpa using h1
    refine SA ⟨?_,g⟩;rw [D,V]; rfl
   ·have V:decide (n=0)=true:=by simpa using h1
    refine ah g 1 rfl bk aZ rfl ?_;refine Run.callPure Bk z8 g (xk s hs S) fun w' g=>?_;refine cU ?_;refine yF h1 ?_;refine FB (fun o=>⟨?_,g⟩) (fun o=>?_)
    ·have j:gJ s=false:=by simpa using o
     rw [D,V,j]; rfl
    ·have j:gJ s=true:=by simpa using o
     refine ah g 1 rfl ay ax rfl ?_;refine aG B ao ?_;refine fC ?_;refine yF o ⟨?_,g⟩;rw [D,V,j,eL,eL]
     congr 1
     rw [rZ];simp;omega
  intro t _ _ _ _ _ _ _ _ _ _ _ _ _ _ w';rintro ⟨rfl,g⟩;refine aI (fun Z=>?_) (fun Z=>?_)
  ·have J:eV (.mk k n s ks)=false:=by simpa using Z
   exact m (false,c+1) g rfl (C _ (by rw [ae G,af u,J]; rfl))
  ·have J:eV (.mk k n s ks)=true:=by simpa using Z
   refine ah g 1 rfl ay ax rfl ?_;refine r8 ?_;have a1:Cb Tryz.prog KF Tryz.f139 [.pointer (some ⟨N,0,none⟩),.pointer (some ⟨O,0,none⟩)] S
     (fun c:Int=>[jM i c,.blk N (.cells #[.int .i64 a] bD),.blk O (.cells #[.pointer (some ⟨i,0,none⟩)] nF)]) (fun c=>0<=c/\c<=120)
     (fun c t=>(!(fA t (a+1) c).1,(fA t (a+1) c).2)) (fun v x=>∃ cs,v=.agg cs.toArray/\RdT S cs x) ks:=by
    refine ⟨HZ,HK,fun st x _ U hf=>?_,fun st x v hx U=>?_⟩
    ·have:=GR x (a+1) st U.2 (by simpa using hf);omega
    ·rintro ⟨cs,rfl,a0⟩ w1 g;have hl:=a0.length;refine yi.2 ?_;dsimp only[yi,fB];refine bH g fun b w' g=>?_;refine aq g 3 ad rfl (by simpa [Value.cells] using hl) ?_;refine aD g 1 aw rfl rfl ?_;refine bF (by omega) ?_;refine aD g 2 E8 rfl rfl ?_;have g:=g.perm (M:=[.blk N (.cells #[.int .i64 a] bD),.blk O (.cells #[.pointer (some ⟨i,0,none⟩)] nF),.blk b (.cells (Value.agg cs.toArray).cells ac)]++[jM i st])
      (bK (l₁:=[_,_,_]) (l₂:=[jM i st]))
     refine Run.call DQ D7 g (ih x hx S cs (a+1) st i a0 (by omega) (by omega) U.1 U.2) fun v' I' S' w'=>?_;rintro ⟨rfl,rfl,rfl⟩ _ g;refine cU ?_;have g:=(g.perm (M:=[jM i (fA x (a+1) st).2]++[.blk N (.cells #[.int .i64 a] bD),.blk O (.cells #[.pointer (some ⟨i,0,none⟩)] nF),.blk b (.cells (Value.agg cs.toArray).cells ac)])
      bK).pick [true,true,true,false]
     exact ⟨_,_,_,rfl,g,Ext.refl _ _ _,rfl,rfl,rfl⟩
   have g:=g.perm (M:=[.blk b3 (.cells #[.int .i64 k,.int .i64 n,.string s,kv] ac)]++[jM i (c+1),.blk N (.cells #[.int .i64 a] bD),.blk O (.cells #[.pointer (some ⟨i,0,none⟩)] nF)]) (List.Perm.swap _ _ _);refine Run.call fN fM g (jI a1 B ⟨by omega,by omega⟩) fun v' I' S' w'=>?_;rintro ⟨rfl,rfl,rfl⟩ _ g;refine cU ?_;rw [Ep] at g ⊢;have g:=g.perm (M:=[jM i (lh ks (a+1) (c+1)).2,.blk b3 (.cells #[.int .i64 k,.int .i64 n,.string s,kv] ac),.blk N (.cells #[.int .i64 a] bD),.blk O (.cells #[.pointer (some ⟨i,0,none⟩)] nF)]) (List.Perm.swap _ _ _);refine m (lh ks (a+1) (c+1)) g (by simp) (C _ (by rw [ae G,af u,J]; rfl))
 ·exact m (false,c+1) g rfl (C _ (by rw [ae G,ae u]))

theorem nc {t:T} {S:ag} {cs:List Value} (h:RdT S cs t):Pure Tryz.prog CO [.agg cs.toArray] S (.bool (cA t)):=by
 intro w a;have i:=h.length;refine pw.2 ?_;dsimp only[pw,aQ];refine bH a fun j w' a=>?_;refine aH a wS fun g w' a=>?_;refine ef a 1 (n:=1) rfl (by rw [aw]; rfl) rfl (Ce rfl) (by simp [Value.cells]; rfl) fun w' a=>?_;refine aq a 0 ad rfl (by simpa [Value.cells] using i) ?_;refine Run.call (A:=[_]) (I:=[jM g 0]) DQ D7 a (KJ t S cs 1 0 g h (by omega) (by omega) (by omega) (by omega)) fun v' I' S' w'=>?_;rintro ⟨rfl,rfl,rfl⟩ _ a;exact done a (by rw [Ki])
end
end Go.Proofs.YtjbcdmheajljpaaGreat
