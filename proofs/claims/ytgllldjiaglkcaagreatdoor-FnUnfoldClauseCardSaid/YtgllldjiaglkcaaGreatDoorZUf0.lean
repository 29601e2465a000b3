/- Data that a function has made for itself: trees of blocks that nobody else knows. -/
import Derived.Test.YtgllldjiaglkcaaGreatDoorZUfF
import Derived.Test.YtgllldjiaglkcaaGreatDoorZUfgz
namespace Go.Proofs.YtgllldjiaglkcaaGreatDoor
section
open Go Go.RowKit
attribute [local irreducible] Run CondV aq aK

abbrev bh:=List (Nat × Obj)
def aV (L:bh):List Item:=L.map fun p=>.blk p.1 p.2
theorem cK (L M:bh):aV (L++M)=aV L++aV M:=by simp [aV]
def Ins (S:ae) (L:bh):Prop:=∀ p∈L,S p.1=some p.2
theorem Ins.mono {S S':ae} {L:bh} (h:Ins S L) (a:Sle S S'):Ins S' L:=fun p f=>a _ _ (h p f)
theorem Ins.left {S:ae} {L M:bh} (h:Ins S (L++M)):Ins S L:=fun p a=>h p (cZ _ a)
theorem Ins.right {S:ae} {L M:bh} (h:Ins S (L++M)):Ins S M:=fun p a=>h p (fb _ a)
theorem iQ {L:bh} {b:Nat}:b∈bP (aV L)↔∃ p∈L,p.1=b:=by
 simp only [bP,aV,Eo,dp];constructor
 ·rintro ⟨it,⟨p,a,rfl⟩,f⟩;simp only [Item.foot,bK] at f;exact ⟨p,a,f.symm⟩
 ·rintro ⟨p,a,rfl⟩;exact ⟨_,⟨p,a,rfl⟩,by simp [Item.foot]⟩

theorem Inv.publishAll {w0 w:World} {X:List Nat} {A:List Item}:∀ (L:bh) {S:ae},Inv w0 X (A++aV L) S w->
  ∃ S',Inv w0 X A S' w/\Sle S S'/\Ins S' L/\∀ b o,S' b=some o->S b=some o ∨ b∈bP (aV L)
 | [],S,h=>⟨S,by simpa [aV] using h,Sle.refl S,by intro p m; simp at m,fun b o g=>.inl g⟩
 | p::L,S,h=>by
  have G:(A++aV (p::L))[A.length]?=some (.blk p.1 p.2):=by simp [aV]
  obtain ⟨i,r⟩:=h.publish G;have J:(A++aV (p::L)).eraseIdx A.length=A++aV L:=by simp [aV,List.eraseIdx_append_of_length_le]
  rw [J] at i;obtain ⟨S',t,l,B,D⟩:=publishAll L i;refine ⟨S',t,r.trans l,fun q a=>?_,fun b o g=>?_⟩
  ·rcases bY.1 a with rfl|a
   ·exact l _ _ (by simp [qc])
   ·exact B q a
  ·rcases D b o g with f|f
   ·simp only [qc] at f;split at f
    ·rename_i e; right; rw [iQ]; exact ⟨p,aM ..,e.symm⟩
    ·exact .inl f
   ·right;obtain ⟨q,a,e⟩:=iQ.1 f;exact iQ.2 ⟨q,aR _ a,e⟩

def TrSl {α:Type} (k:Nat) (R:bh->List Value->α->Prop) (L:bh) (v:Value) (xs:List α):Prop:=
 ∃ a cap,v=.slice a xs.length cap/\xs.length<=cap/\cap<=maxLen/\
  ((xs=[]/\L=[]) ∨ ∃ b c E,∃ Ls:List bh,a=some ⟨b,0,none⟩/\L=(b,.cells c E)::Ls.flatten/\Ls.length=xs.length/\cap * k<=c.size/\
   ∀ i (h:i<xs.length) (h':i<Ls.length),R Ls[i] (aX c (i * k) k) xs[i])
inductive TrT:bh->List Value->T->Prop
 | nil {k n:Int} {s:ByteArray} {a:Option Addr} {cap:Nat} (hk:inI k) (hn:inI n) (hs:s.size<=maxLen) (hc:cap<=maxLen) :
   TrT [] [.int .i64 k,.int .i64 n,.string s,.slice a 0 cap] (.mk k n s [])
 | cons {k n:Int} {s:ByteArray} {kids:List T} {b cap:Nat} {c:Array Value} {E:TypeId} {Ls:List bh} (hk:inI k) (hn:inI n) (hs:s.size<=maxLen) (hl:kids.length<=cap) (hc:cap<=maxLen)
   (hLs:Ls.length=kids.length) (hsz:cap * 4<=c.size) (h:∀ i (h:i<kids.length) (h':i<Ls.length),TrT Ls[i] (aX c (i * 4) 4) kids[i]) :
   TrT ((b,.cells c E)::Ls.flatten) [.int .i64 k,.int .i64 n,.string s,.slice (some ⟨b,0,none⟩) kids.length cap] (.mk k n s kids)
theorem TrT.iff {L:bh} {cs:List Value} {t:T}:TrT L cs t ↔
  ∃ ks,cs=[.int .i64 t.kind,.int .i64 t.n,.string t.name,ks]/\inI t.kind/\inI t.n/\t.name.size<=maxLen/\TrSl 4 TrT L ks t.kids:=by
 constructor
 ·intro h;cases h with
  | nil hk hn i hc=>exact ⟨_,rfl,hk,hn,i,_,_,rfl,bk _,hc,.inl ⟨rfl,rfl⟩⟩
  | cons hk hn i hl hc f g h=>exact ⟨_,rfl,hk,hn,i,_,_,rfl,hl,hc,.inr ⟨_,_,_,_,rfl,rfl,f,g,h⟩⟩
 ·obtain ⟨k,n,s,kids⟩:=t;rintro ⟨ks,rfl,hk,hn,i,a,cap,rfl,hl,hc,h⟩;rcases h with ⟨h,rfl⟩|⟨b,c,E,Ls,rfl,rfl,f,g,h⟩
  ·simp only [T.kids] at h;subst h;exact TrT.nil hk hn i hc
  ·exact TrT.cons hk hn i hl hc f g h
theorem TrT.length {L:bh} {cs:List Value} {t:T} (h:TrT L cs t):cs.length=4:=by
 obtain ⟨ks,rfl,_⟩:=TrT.iff.1 h; rfl
theorem TrT.one {L:bh} {cs:List Value} {t:T} (h:TrT L cs t):∀ u∈cs,u.oneCell'=true:=by
 obtain ⟨ks,rfl,_,_,_,a,cap,rfl,_⟩:=TrT.iff.1 h;intro u f;simp at f;rcases f with rfl|rfl|rfl|rfl <;> rfl
theorem RdT.one {S:ae} {cs:List Value} {t:T} (h:RdT S cs t):∀ u∈cs,u.oneCell'=true:=by
 obtain ⟨ks,rfl,_,_,_,a,cap,rfl,_⟩:=RdT.iff.1 h;intro u f;simp at f;rcases f with rfl|rfl|rfl|rfl <;> rfl
theorem D5 {S:ae} {Ls:List bh} (h:Ins S Ls.flatten) {i:Nat} (a:i<Ls.length):Ins S Ls[i]:=
 fun p f=>h p (QB.2 ⟨_,bG a,f⟩)
theorem TrSl.rd {α:Type} {S:ae} {k:Nat} {R:bh->List Value->α->Prop} {R':List Value->α->Prop} {L:bh} {v:Value} {xs:List α} (h:TrSl k R L v xs) (f:Ins S L)
  (hR:∀ L cs x,Ins S L->R L cs x->R' cs x):RdSl S k R' v xs:=by
 obtain ⟨a,cap,rfl,hl,hc,h⟩:=h;refine ⟨a,cap,rfl,hl,hc,?_⟩;rcases h with ⟨h,_⟩|⟨b,c,E,Ls,rfl,rfl,m,o,h⟩
 ·exact .inl h
 ·refine .inr ⟨b,0,c,E,(0,0),rfl,f _ (aM ..),fun i g=>?_⟩;rw [cP];exact hR _ _ _ (D5 (fun p l=>f p (aR _ l)) (by omega)) (h i g (by omega))
theorem TrT.rd {S:ae} {L:bh} {cs:List Value} {t:T} (h:TrT L cs t) (f:Ins S L):RdT S cs t:=by
 induction h with
 | nil hk hn a hc=>exact RdT.nil hk hn a hc
 | cons hk hn a hl hc m q h r=>
  refine RdT.cons hk hn a hl hc (f _ (aM ..)) (o:=0) fun i g=>?_;rw [cP];exact r i g (by omega) (D5 (fun p l=>f p (aR _ l)) (by omega))
def TrC (L:bh) (cs:List Value) (c:C):Prop:=∃ hd ks L1 L2,cs=hd++[ks]/\L=L1++L2/\TrT L1 hd c.head/\TrSl 4 TrT L2 ks c.body
theorem TrC.rd {S:ae} {L:bh} {cs:List Value} {c:C} (h:TrC L cs c) (a:Ins S L):RdC S cs c:=by
 obtain ⟨hd,ks,L1,L2,rfl,rfl,f,g⟩:=h;exact ⟨hd,ks,rfl,f.rd a.left,g.rd a.right fun _ _ _ a h=>h.rd a⟩
theorem TrC.length {L:bh} {cs:List Value} {c:C} (h:TrC L cs c):cs.length=5:=by
 obtain ⟨hd,ks,L1,L2,rfl,rfl,a,f⟩:=h; simp [a.length]
theorem TrC.one {L:bh} {cs:List Value} {c:C} (h:TrC L cs c):∀ u∈cs,u.oneCell'=true:=by
 obtain ⟨hd,ks,L1,L2,rfl,rfl,g,a,cap,rfl,_⟩:=h;intro u f;rcases bF.1 f with f|f
 ·exact g.one u f
 ·simp at f; subst f; rfl

section
variable {P:Program} {w w0:World} {X:List Nat} {L:List Item} {S:ae} {K:Value->World->Prop}
theorem Run.call0 {f:FuncId} {fn:Func} {args:List Value} {Post:Value->List Item->ae->Prop}
  (hf:P.funcs[f]?=some fn) (hn:(fn.name == "runtime.NumGoroutine" || fn.body.isNone)=false) (h:Inv w0 X L S w) (hc:Tri P f args [] S Post)
  (hk:∀ v I' S' w',Post v I' S'->Sle S S'->Inv w0 X (L++I') S' w'->K v w'):Run P (ff (.func (.func f) #[] #[]) args) w K:=
 Run.call (A:=L) (I:=[]) hf hn (by simpa using h) hc hk
theorem dj {T U ty h E:TypeId} {f d b:Nat} {c:Array Value} {v:Value} (m:Inv w0 X L S w) (i:Nat) (o:L[i]?=some (.blk b (.cells c E))) (hf:bT P T f=some d) (r:j7 P U=true) (a:Nat.blt d c.size=true)
  (l:v.cells=#[v]) (t:v.oneCell'=true)
  {K:Value->Value->World->Prop} (hk:∀ w',Inv w0 X (L.set i (.blk b (.cells (c.setIfInBounds d v) E))) S w'->K (.pointer (some ⟨b,d,none⟩)) undef w') :
  Run P (sOp (.fieldAddr T (.const (.pointer (some ⟨b,0,none⟩))) f) ty) w fun q w'=>Run P (sOp (.store U (.const q) (.const v)) h) w' (K q):=by
 have a:d<c.size:=by simpa [Nat.blt_eq] using a
 refine aw hf ?_;rw [cP];refine dy m i (n:=1) (by rw [l]; rfl) (by rw [r]; rfl) o (by omega) (by rw [l]; simpa using t) fun w' g=>hk w' ?_;have:cB c d v.cells.toList=c.setIfInBounds d v:=by
  rw [l];apply FE.1;simp only [cB,Yp];have hl:d<c.toList.length:=by simpa using a
  rw [FG,ai hl];simp
 rw [this] at g;exact g
theorem EL {T ty E:TypeId} {o b n:Nat} {c:Array Value} {v:Value} (f:Inv w0 X L S w) (i:Nat) (g:L[i]?=some (.blk b (.cells c E))) (h:sk P T=some n) (hn:v.cells.size=n) (a:Nat.ble (o+n) c.size=true)
  (l:∀ u∈v.cells.toList,u.oneCell'=true) (hk:∀ w',Inv w0 X (L.set i (.blk b (.cells (cB c o v.cells.toList) E))) S w'->K undef w') :
  Run P (sOp (.store T (.const (.pointer (some ⟨b,o,none⟩))) (.const v)) ty) w K:=
 dy f i hn (by rw [h]; simp) g (mL a) l hk
theorem au {T ty E:TypeId} {b n:Nat} {c cs:Array Value} (f:Inv w0 X L S w) (i:Nat) (g:L[i]?=some (.blk b (.cells c E))) (h:sk P T=some n) (hn:cs.size=n) (hc:c.size=n)
  (l:∀ u∈cs.toList,u.oneCell'=true) (hk:∀ w',Inv w0 X (L.set i (.blk b (.cells cs E))) S w'->K undef w') :
  Run P (sOp (.store T (.const (.pointer (some ⟨b,0,none⟩))) (.const (.agg cs))) ty) w K:=by
 refine dy f i (v:=.agg cs) (n:=n) hn (by rw [h]; simp) g (by omega) l fun w' a=>hk w' ?_;have:cB c 0 (Value.agg cs).cells.toList=cs:=by
  rw [yT _ _ (by simp [Value.cells,hn,hc])];simp [Value.cells]
 rw [this] at a;exact a
end

theorem TrSl.nil {α:Type} {k:Nat} {R:bh->List Value->α->Prop} {a:Option Addr} {cap:Nat} (hc:cap<=maxLen):TrSl k R [] (.slice a 0 cap) ([]:List α):=
 ⟨a,cap,rfl,bk _,hc,.inl ⟨rfl,rfl⟩⟩
def Part {α:Type} (k:Nat) (R:bh->List Value->α->Prop) (c:Array Value) (Ls:List bh) (xs:List α):Prop:=
 Ls.length=xs.length/\∀ i (h:i<xs.length) (h':i<Ls.length),R Ls[i] (aX c (i * k) k) xs[i]
theorem Part.nil {α:Type} (k:Nat) (R:bh->List Value->α->Prop) (c:Array Value):Part k R c [] ([]:List α):=⟨rfl,fun i h=>by simp at h⟩
theorem Part.snoc {α:Type} {k:Nat} {R:bh->List Value->α->Prop} {c:Array Value} {Ls:List bh} {xs:List α} (h:Part k R c Ls xs) {cs:List Value} {L:bh} {x:α} (m:R L cs x) (hl:cs.length=k)
  (a:(xs.length+1) * k<=c.size):Part k R (cB c (xs.length * k) cs) (Ls++[L]) (xs++[x]):=by
 have hf:xs.length * k+cs.length<=c.size:=by rw [hl]; rw [AO,Nat.one_mul] at a; exact a
 refine ⟨by simp [h.1],fun i o q=>?_⟩;by_cases g:i<xs.length
 ·have f:i<Ls.length:=by rw [h.1]; exact g
  rw [fA f,fA g,hY hf]
  ·exact h.2 i g f
  ·left;have:(i+1) * k<=xs.length * k:=gM _ g;rw [AO,Nat.one_mul] at this;exact this
 ·have l:i=xs.length:=by simp at o; omega
  subst l;have f:xs.length=Ls.length:=h.1.symm;rw [eZ (by omega),eZ (by omega)];simp only [f,ey,lc];rw [<- f,<- hl,iu (by rw [hl] at hf ⊢; exact hf)];exact m
theorem Part.sl {α:Type} {k:Nat} {R:bh->List Value->α->Prop} {b:Nat} {c:Array Value} {E:TypeId} {Ls:List bh} {xs:List α} {cap:Nat} (h:Part k R c Ls xs) (a:xs.length<=cap) (f:cap<=maxLen) (g:cap * k<=c.size) :
  TrSl k R ((b,.cells c E)::Ls.flatten) (.slice (some ⟨b,0,none⟩) xs.length cap) xs:=
 ⟨_,cap,rfl,a,f,.inr ⟨b,c,E,Ls,rfl,rfl,h.1,g,h.2⟩⟩
end
section
open Go Go.RowKit
section
variable {P:Program} {w:World} {K:Value->World->Prop} {ty:TypeId}
attribute [local irreducible] Run CondV aq aK
theorem kP {a:Bool} {v:Value} {A:Prop} (g:a=true->A) (hf:a=false->K (.bool false) w):aq (.bool a) true A (Run P (sOp (.pick (.const (.bool a)) (.const v) (.const (.bool false))) ty) w K):=
 PJ g fun h=>by
  have f:a=false:=by simpa using h
  refine xf ?_;rw [f];exact hf f
theorem iM {a:Bool} {v u:Value} (f:a=true) (hk:K v w):Run P (sOp (.pick (.const (.bool a)) (.const v) (.const u)) ty) w K:=by
 refine xf ?_;rw [f];exact hk
theorem qE {v:Value} {A:Prop} (hk:K (.bool false) w):aq (.bool false) true A (Run P (sOp (.pick (.const (.bool false)) (.const v) (.const (.bool false))) ty) w K):=
 kP (fun h=>by cases h) fun _=>hk
theorem KU {a:Bool} {v:Value} {A:Prop} (g:a=true->K (.bool true) w) (hf:a=false->A):aq (.bool a) false A (Run P (sOp (.pick (.const (.bool a)) (.const (.bool true)) (.const v)) ty) w K):=
 PJ hf fun h=>by
  have f:a=true:=by simpa using h
  refine xf ?_;rw [f];exact g f
theorem BM {a:Bool} {v u:Value} (f:a=false) (hk:K v w):Run P (sOp (.pick (.const (.bool a)) (.const u) (.const v)) ty) w K:=by
 refine xf ?_;rw [f];exact hk
theorem Zs {v:Value} {A:Prop} (hk:K (.bool true) w):aq (.bool true) false A (Run P (sOp (.pick (.const (.bool true)) (.const (.bool true)) (.const v)) ty) w K):=
 KU (fun _=>hk) fun h=>by cases h
end

def wv (cs:List Value) (s:ByteArray):Prop:=cs=[.string s]
def jD (cs:List Value) (n:Int):Prop:=cs=[.int .i64 n]
section
variable {P:Program} {w w0:World} {X:List Nat} {L:List Item} {S:ae} {K:Value->World->Prop}
attribute [local irreducible] Run CondV aq aK
theorem wD (h:Inv w0 X L S w) {s:Sem Next} {v:Nat->Value} {o:Obj} (a:s.run P w=.ok (.value (v w.heap.size)) { w with heap:=w.heap.push o })
  (hk:∀ b w',Inv w0 X (L++[.blk b o]) S w'->K (v b) w'):Run P s w K:=Run.of a (hk _ _ (h.alloc o))
theorem Inv.publishLast {b:Nat} {o:Obj} (h:Inv w0 X (L++[.blk b o]) S w):Inv w0 X L (qc S b o) w/\Sle S (qc S b o):=by
 have a:(L++[Item.blk b o])[L.length]?=some (.blk b o):=by simp
 have:=h.publish a
 rwa [show (L++[Item.blk b o]).eraseIdx L.length=L by simp [List.eraseIdx_append_of_length_le]] at this
theorem fg {α:Type} {T U ty a E:TypeId} {R:List Value->α->Prop} {v u:Value} {xs:List α} (g:Inv w0 X L S w) (h:RdSl S 1 R v xs) (l:dl P T=some (E,1)) (m:j7 P U=true)
  {i:Nat} (f:i<xs.length) (hR:∀ cs,R cs xs[i]->cs=[u]) {K:Value->Value->World->Prop} (hk:K (elP v (i * 1)) u w) :
  Run P (sOp (.indexAddr T (.const v) (.const (.int .i64 i))) ty) w fun p w'=>Run P (sOp (.load U (.const p)) a) w' (K p):=by
 obtain ⟨b,o,cap,c,E',t,rfl,q,r⟩:=h.at_ f;refine az l f ?_;refine cQ m ?_ hk;rw [g.cellS q];exact aF (hR _ r) 0 u rfl
end
theorem RdSl.ofCells {α:Type} {S:ae} {R:List Value->α->Prop} {b n:Nat} {c:Array Value} {E:TypeId} {a:Nat × Nat} {xs:List α} (f:S b=some (.cells c E a)) (hn:xs.length=n) (g:n<=maxLen)
  (h:∀ i (h:i<xs.length),R (aX c i 1) xs[i]):RdSl S 1 R (.slice (some ⟨b,0,none⟩) n n) xs:=by
 subst hn;exact ⟨_,_,rfl,aS _,g,.inr ⟨b,0,c,E,a,rfl,f,fun i l=>by rw [cP,Nat.mul_one]; exact h i l⟩⟩
end
section
open Go

def signs:List ByteArray:=[⟨#[43]⟩,⟨#[45]⟩,⟨#[42]⟩,⟨#[47,47]⟩,⟨#[61]⟩,⟨#[92,61]⟩,⟨#[61,61]⟩,⟨#[60]⟩,⟨#[62]⟩,⟨#[61,60]⟩,⟨#[62,61]⟩,⟨#[61,58,61]⟩,⟨#[46]⟩,⟨#[91,93]⟩,⟨#[33]⟩]
def tH (b:UInt8):Bool:=decide (97<=b.toNat) && decide (b.toNat<=122)
def s6 (s:ByteArray):Bool:=s.data.toList.all tH
def my (s:ByteArray):Bool:=s6 s && (decide (1<=s.size) && decide (s.size<=6))
def lJ (s:ByteArray):Bool:=my s || signs.any fun x=>decide (x=s)
def emptyB:ByteArray:=⟨#[]⟩
def eB (t:T):Bool:=
 if t.kind=1 then decide (0<=t.n) && (decide (t.n<=25) && (decide (t.name=emptyB) && decide (t.kids.length=0)))
 else if t.kind=2 then decide (-999<=t.n) && (decide (t.n<=999) && (decide (t.name=emptyB) && decide (t.kids.length=0)))
 else if t.kind=3 then decide (t.n=0) && (lJ t.name && decide (t.kids.length<=4))
 else false
mutual
def iC:T->Int->Bool
 | .mk k n s ks,d=>if d<1 then false else eB (.mk k n s ks) && iG ks (d - 1)
def iG:List T->Int->Bool
 | [],_=>true
 | t::ts,d=>iC t d && iG ts d
end
mutual
def dF:T->Int
 | .mk _ _ _ ks=>1+cY ks
def cY:List T->Int
 | []=>0
 | t::ts=>dF t+cY ts
end
mutual
def lp:T->Int->Int
 | .mk _ _ _ ks,most=>gS ks 1 most
def gS:List T->Int->Int->Int
 | [],n,_=>n
 | t::ts,n,most=>if n<=most then gS ts (n+lp t (most - n)) most else n
end
def d6 (t:T):Bool:=iC t 30 && decide (dF t<=120)

mutual
theorem pU:∀ t:T,1<=dF t
 | .mk _ _ _ ks=>by simp only [dF]; have:=ef ks; omega
theorem ef:∀ ts:List T,0<=cY ts
 | []=>by simp [cY]
 | t::ts=>by simp only [cY]; have:=pU t; have:=ef ts; omega
end
mutual
theorem Bo:∀ (t:T) (most:Int),0<=most->(dF t<=most->lp t most=dF t)/\(most<dF t->most<lp t most/\lp t most<=dF t)
 | .mk _ _ _ ks,most,h=>by
  simp only [dF,lp];have:=IJ ks 1 most h (by omega);exact this
theorem IJ:∀ (ts:List T) (n most:Int),0<=most->1<=n->(n+cY ts<=most->gS ts n most=n+cY ts)/\(most<n+cY ts->most<gS ts n most/\gS ts n most<=n+cY ts)
 | [],n,most,h,h1=>by
  simp only [cY,gS];exact ⟨fun _=>by omega,fun _=>by omega⟩
 | t::ts,n,most,h,h1=>by
  simp only [cY,gS];have l:=pU t;have hl:=ef ts;by_cases hn:n<=most
  ·rw [ai hn];have f:=Bo t (most - n) (by omega);by_cases hc:dF t<=most - n
   ·rw [f.1 hc];have g:=IJ ts (n+dF t) most h (by omega);exact ⟨fun a=>by rw [g.1 (by omega)]; omega,fun a=>by have:=g.2 (by omega); omega⟩
   ·have m:=f.2 (by omega);have i:gS ts (n+lp t (most - n)) most=n+lp t (most - n):=by
     cases ts with
     | nil=>rfl
     | cons u us=>rw [gS,ag (by omega)]
    rw [i];exact ⟨fun a=>by omega,fun a=>by omega⟩
  ·rw [ag hn];exact ⟨fun a=>by omega,fun a=>by omega⟩
end
theorem ST (t:T):decide (lp t 120<=120)=decide (dF t<=120):=by
 have h:=Bo t 120 (by omega);by_cases hc:dF t<=120
 ·rw [h.1 hc]
 ·have:=h.2 (by omega);rw [ba (by omega),ba hc]

mutual
def fV:T->Int->Int->Bool × Int
 | .mk k n s ks,deep,c=>
  if 120<c+1 ∨ 30<deep then (false,c+1)
  else if k=1 ∨ k=2 then (eB (.mk k n s ks),c+1)
  else if k=3 then (if eB (.mk k n s ks) then mp ks (deep+1) (c+1) else (false,c+1))
  else (false,c+1)
def mp:List T->Int->Int->Bool × Int
 | [],_,c=>(true,c)
 | t::ts,deep,c=>if (fV t deep c).1 then mp ts deep (fV t deep c).2 else (false,(fV t deep c).2)
end
theorem Ui {k n:Int} {s:ByteArray} {ks:List T} (h:eB (.mk k n s ks)=true) (hk:k=1 ∨ k=2):ks=[]:=by
 unfold eB at h;simp only [T.kind,T.n,T.name,T.kids] at h;rcases hk with rfl|rfl <;> simp at h <;> exact h.2.2.2
theorem Vv {k n:Int} {s:ByteArray} {ks:List T} (h:eB (.mk k n s ks)=true):k=1 ∨ k=2 ∨ k=3:=by
 unfold eB at h;simp only [T.kind,T.n,T.name,T.kids] at h;by_cases a:k=1
 ·exact .inl a
 ·by_cases f:k=2
  ·exact .inr (.inl f)
  ·by_cases g:k=3
   ·exact .inr (.inr g)
   ·simp [a,f,g] at h
mutual
theorem GJ:∀ (t:T) (a c:Int),(fV t a c).1=(iC t (31 - a) && decide (c+dF t<=120))/\((fV t a c).1=true->(fV t a c).2=c+dF t)
 | .mk k n s ks,a,c=>by
  have hl:=ef ks;rw [show dF (T.mk k n s ks)=1+cY ks from rfl];simp only [fV,iC];by_cases f:120<c+1 ∨ 30<a
  ·rw [ai f];refine ⟨?_,fun h=>by cases h⟩;rcases f with f|f
   ·rw [ba (show ¬ (c+(1+cY ks)<=120) by omega),y5]
   ·rw [ai (show 31 - a<1 by omega)]; rfl
  ·rw [ag f,ag (show ¬ (31 - a<1) by omega)];by_cases g:k=1 ∨ k=2
   ·rw [ai g];cases i:eB (.mk k n s ks) with
    | false=>exact ⟨rfl,fun h=>by cases h⟩
    | true=>
     have:=Ui i g;subst this;rw [show cY []=0 from rfl];simp only [iG,eH];exact ⟨by rw [aN (show c+(1+0)<=120 by omega)],fun _=>by omega⟩
   ·rw [ag g];by_cases l:k=3
    ·rw [ai l];cases i:eB (.mk k n s ks) with
     | false=>exact ⟨rfl,fun h=>by cases h⟩
     | true=>
      simp only [if_true,eH];have:=MD ks (a+1) (c+1);rw [show 31 - (a+1)=31 - a - 1 by omega] at this;rw [show c+(1+cY ks)=c+1+cY ks by omega];refine ⟨?_,this.2⟩;rw [this.1];cases ks with
      | nil=>rw [show cY []=0 from rfl,aN (show c+1+0<=120 by omega)]; rfl
      | cons t ts=>simp
    ·rw [ag l];have i:eB (.mk k n s ks)=false:=by
      rw [<- Ok];intro h;rcases Vv h with e|e|e
      ·exact g (.inl e)
      ·exact g (.inr e)
      ·exact l e
     rw [i];exact ⟨rfl,fun h=>by cases h⟩
theorem MD:∀ (ts:List T) (a c:Int),(mp ts a c).1=(iG ts (31 - a) && (ts.isEmpty || decide (c+cY ts<=120)))/\((mp ts a c).1=true->(mp ts a c).2=c+cY ts)
 | [],a,c=>by simp [mp,iG,cY]
 | t::ts,a,c=>by
  have f:=GJ t a c;have o:=ef ts;rw [show cY (t::ts)=dF t+cY ts from rfl];simp only [mp,iG,List.isEmpty_cons,iz];cases l:(fV t a c).1 with
  | false=>
   rw [l] at f;have g:=f.1;refine ⟨?_,fun h=>by cases h⟩;simp only [Ha,if_false];cases i:iC t (31 - a) with
   | false=>rfl
   | true=>
    rw [i,eH] at g;have:¬ (c+dF t<=120):=of_decide_eq_false g.symm;rw [ba (show ¬ (c+(dF t+cY ts)<=120) by omega),y5]
  | true=>
   rw [l] at f;have g:=f.1;have m:=f.2 rfl;simp only [if_true];rw [m];have i:iC t (31 - a)=true/\c+dF t<=120:=by
    have:=g.symm;simpa using this
   have hl:=MD ts a (c+dF t);rw [show c+(dF t+cY ts)=c+dF t+cY ts by omega];refine ⟨?_,hl.2⟩;rw [hl.1,i.1,eH];cases ts with
   | nil=>rw [show cY []=0 from rfl,aN (show c+dF t+0<=120 by omega)]; rfl
   | cons u us=>simp
end
theorem Px (t:T):(fV t 1 0).1=d6 t:=by
 rw [(GJ t 1 0).1,d6];simp
end
section
open Go Go.RowKit
attribute [local irreducible] Run CondV aq aK

mutual
def wT:T->Nat
 | .mk _ _ s ks=>s.size+ks.length+wL ks
def wL:List T->Nat
 | []=>0
 | t::ts=>wT t+wL ts
end
theorem iJ:∀ {ts:List T} {t:T},t∈ts->wT t<=wL ts
 | x::xs,t,h=>by
  simp only [wL];rcases bY.1 h with rfl|h
  ·omega
  ·have:=iJ h; omega

abbrev N6 {α:Type} (k:Nat) (R:bh->List Value->α->Prop) (S:ae) (xs:List α):Value->List Item->ae->Prop:=
 fun v I' S'=>S'=S/\∃ L,I'=aV L/\TrSl k R L v xs
abbrev CP (S:ae) (t:T):Value->List Item->ae->Prop:=fun v I' S'=>S'=S/\∃ cs L,v=.agg cs.toArray/\I'=aV L/\TrT L cs t

def wC (c:C):Nat:=wT c.head+c.body.length+wL c.body
def wP:List C->Nat
 | []=>0
 | c::cs=>wC c+wP cs
theorem KT:∀ {cs:List C} {c:C},c∈cs->wC c<=wP cs
 | x::xs,c,h=>by
  simp only [wP];rcases bY.1 h with rfl|h
  ·omega
  ·have:=KT h; omega
abbrev Wt (S:ae) (c:C):Value->List Item->ae->Prop:=fun v I' S'=>S'=S/\∃ cs L,v=.agg cs.toArray/\I'=aV L/\TrC L cs c
end
section
open Go Go.RowKit
attribute [local irreducible] Run CondV aq aK

theorem y6 {α:Type} (p:α->Bool) (l:List α) (k:Nat) (h:k<l.length):(l.drop k).all p=(p l[k] && (l.drop (k+1)).all p):=by
 rw [dY h,IU]
theorem EY {α:Type} (p:α->Bool) (l:List α) (k:Nat) (h:k<l.length):(l.drop k).any p=(p l[k] || (l.drop (k+1)).any p):=by
 rw [dY h,fB]
theorem pX (s:ByteArray):s.data.toList.length=s.size:=by rw [Qp]; rfl
theorem Ol (s:ByteArray) (k:Nat) (h:k<s.size):s.data.toList[k]'(by rw [pX]; exact h)=s[k]:=rfl

theorem xO (s:ByteArray) (q:s.size<=maxLen) (S:ae):Pure Tryz.prog P0 [.string s] S (.bool (my s)):=by
 intro w l;simp only [maxLen] at q;refine Co.2 ?_;dsimp only[Co,aO];refine ⟨fun i w'=>∃ k:Nat,k<=s.size/\i=.int .i64 k/\(s.data.toList.drop k).all tH=s6 s/\Inv w [] [] S w',fun i _=>s.size - (intOf i).toNat,⟨0,bk _,rfl,rfl,l⟩,?_⟩;intro r _ _ _ _ _ _ _ _ _ _ _ _ _ _ _ _ _ w';rintro ⟨k,hk,rfl,f,l⟩;refine jw aZ ?_;refine bS ?_;refine aL (fun o=>?_) (fun o=>?_)
 ·have g:k<s.size:=by omega
  have a:=y6 tH s.data.toList k (by rw [pX]; exact g);rw [Ol s k g] at a;refine ⟨fun t w'=>t=.bool (!tH s[k])/\Inv w [] [] S w',?_,?_⟩
  ·refine mj aZ g ?_;refine bS ?_;refine KU (fun h=>⟨?_,l⟩) (fun h=>?_)
   ·have h:=of_decide_eq_true h;rw [tH,ba (show ¬ 97<=s[k].toNat by omega)]; rfl
   ·refine mj aZ g ?_;refine eP ?_;refine BM h ⟨?_,l⟩;have h:=of_decide_eq_false h;rw [tH,aN (show 97<=s[k].toNat by omega),eH];by_cases m:s[k].toNat<=122
    ·rw [aN m,ba (by omega)]; rfl
    ·rw [ba m,aN (by omega)]; rfl
  intro t _ _ _ _ _ _ _ _ _ w';rintro ⟨rfl,l⟩;refine aD (fun h=>done l ?_) (fun h=>?_)
  ·simp at h;rw [my,<- f,a,h]; rfl
  ·simp at h;refine bC (by omega) ?_;refine ⟨⟨k+1,g,rfl,by rw [<- f,a,h]; rfl,l⟩,by simp [intOf]; omega⟩
 ·have:k=s.size:=by omega
  subst this;have hl:s6 s=true:=by rw [<- f,<- pX,eC]; rfl
  refine jw aZ ?_;refine jM ?_;refine kP (fun h=>?_) (fun h=>done l ?_)
  ·refine jw aZ ?_;refine fU ?_;refine iM h (done l ?_);have h:=of_decide_eq_true h;rw [my,hl,aN (show 1<=s.size by omega)];by_cases m:s.size<=6
   ·rw [aN m,aN (by omega)]; rfl
   ·rw [ba m,ba (by omega)]; rfl
  ·have h:=of_decide_eq_false h;rw [my,hl,ba (show ¬ 1<=s.size by omega)]; rfl

def Au:Array Value:=(signs.map Value.string).toArray
theorem OA {S:ae} {b:Nat} {E:TypeId} (f:S b=some (.cells Au E)):RdSl S 1 wv (.slice (some ⟨b,0,none⟩) 15 15) signs:=by
 refine RdSl.ofCells f rfl (by decide) ?_;intro i g;have a:i<15:=g
 match i,a with
 | 0,_|1,_|2,_|3,_|4,_|5,_|6,_|7,_|8,_|9,_|10,_|11,_|12,_|13,_|14,_=>rfl
abbrev JD (S:ae):Value->List Item->ae->Prop:=fun v I' S'=>I'=[]/\Sle S S'/\RdSl S' 1 wv v signs
theorem My {S:ae} {b n:Nat} {o:Obj} (h:n<=b) (a:Sle S (qc S b o)):Ext n [] S (qc S b o):=
 ⟨a,fun c f hc=>by
  simp only [qc] at hc;split at hc
  ·rename_i e; subst e; exact .inr (.inr h)
  ·exact .inl hc⟩
theorem wq (S:ae):Tri Tryz.prog Oh [] [] S (JD S):=by
 intro w f;refine z8.2 ?_;dsimp only[z8,nV];refine wD (v:=fun b=>.slice (some ⟨b,0,none⟩) 15 15) (o:=.cells Au g9) f (by kernel_rfl) fun b w' f=>?_;have a:w.heap.size<=b:=by
  rcases f.new b (by simp [bP,Item.foot]) with h|h
  ·simp [bP] at h
  ·exact h
 obtain ⟨i,g⟩:=Inv.publishLast (L:=[]) f;exact ⟨_,_,_,rfl,i,My a g,rfl,g,OA (by simp [qc]; rfl)⟩
theorem N8 (s:ByteArray) {xs:List ByteArray} {S:ae} {v:Value} (h:RdSl S 1 wv v xs):Pure Tryz.prog Tc [v,.string s] S (.bool (xs.any fun x=>decide (x=s))):=by
 intro w l;have m:=h.le;simp only [maxLen] at m;refine F9.2 ?_;dsimp only[F9,bm];refine ⟨fun i w'=>∃ k:Nat,k<=xs.length/\i=.int .i64 k/\(xs.drop k).any (fun x=>decide (x=s))=xs.any (fun x=>decide (x=s))/\Inv w [] [] S w',fun i _=>xs.length - (intOf i).toNat,⟨0,bk _,rfl,rfl,l⟩,?_⟩;intro t _ _ _ _ _ _ _ _ _ _ _ _ _ w';rintro ⟨k,hk,rfl,a,l⟩;refine aJ h cV ?_;refine bS ?_;refine aL (fun o=>?_) (fun o=>?_)
 ·have g:k<xs.length:=by omega
  have f:=EY (fun x=>decide (x=s)) xs k g;refine fg l h cV be g (fun cs q=>q) ?_;refine bQ ?_;refine aD (fun r=>done l ?_) (fun r=>?_)
  ·rw [<- a,f,r]; rfl
  ·refine bC (by omega) ?_;exact ⟨⟨k+1,g,rfl,by rw [<- a,f,r]; rfl,l⟩,by simp [intOf]; omega⟩
 ·have:k=xs.length:=by omega
  subst this;exact done l (by rw [<- a,eC]; rfl)
theorem iw {w w':World} {L:List Item} {S S':ae} {r a:Value} (h:Inv w [] L S' w') (f:Sle S S') (e:a=r):Ending.returned a=.returned r/\Inv w [] [] S w':=⟨by rw [e],h.nil.less f⟩
theorem BA (s:ByteArray) (g:s.size<=maxLen) (S:ae):Pure Tryz.prog H7 [.string s] S (.bool (lJ s)):=by
 intro w a;refine tD.2 ?_;dsimp only[tD,aO];refine Run.callPure Dg B9 a (xO s g S) fun w' a=>?_;refine KU (fun h=>done a ?_) (fun h=>?_)
 ·rw [lJ,h]; rfl
 ·refine Run.call0 yB zm a (wq S) fun l I' S' w'=>?_;rintro ⟨rfl,_,i⟩ f a;refine Run.callPure PR QL a (N8 s i) fun w' a=>?_;refine BM h (iw a f ?_);rw [lJ,h]; rfl

theorem MG {t:T} {S:ae} {cs:List Value} (h:RdT S cs t):Pure Tryz.prog SY [.agg cs.toArray] S (.bool (eB t)):=by
 intro w a;obtain ⟨kv,rfl,_,_,r,o⟩:=RdT.iff.1 h;obtain ⟨k,n,s,ks⟩:=t;simp only [T.name,T.kids,T.kind,T.n] at r o ⊢;refine F6.2 ?_;dsimp only[F6,aO];refine bJ a fun B w' a=>?_;refine af a 0 rfl aW aG rfl ?_;refine bw ?_;refine aL (fun hk=>?_) (fun hk=>?_)
 ·have i:eB (.mk k n s ks)=(decide (0<=n) && (decide (n<=25) && (decide (s=emptyB) && decide (ks.length=0)))):=by
   rw [eB]; exact ai hk
  refine af a 0 rfl bi aG rfl ?_;refine jM ?_;refine kP (fun f=>?_) (fun f=>?_)
  ·refine af a 0 rfl bi aG rfl ?_;refine fU ?_;refine iM f ?_;refine kP (fun g=>?_) (fun g=>?_)
   ·refine af a 0 rfl bl be rfl ?_;refine bQ ?_;refine iM g ?_;refine kP (fun l=>?_) (fun l=>done a ?_)
    ·refine af a 0 rfl ar al rfl ?_;refine aJ o ah ?_;refine bw ?_;refine iM l (done a ?_);rw [i,f,g,show decide (s=emptyB)=true from l];simp
    ·rw [i,f,g,show decide (s=emptyB)=false from l]; rfl
   ·refine qE (done a ?_);rw [i,f,g]; rfl
  ·refine qE (qE (done a ?_));rw [i,f]; rfl
 refine bw ?_;refine aL (fun m=>?_) (fun m=>?_)
 ·have i:eB (.mk k n s ks)=(decide (-999<=n) && (decide (n<=999) && (decide (s=emptyB) && decide (ks.length=0)))):=by
   rw [eB]; exact (ag hk).trans (ai m)
  refine af a 0 rfl bi aG rfl ?_;refine jM ?_;refine kP (fun f=>?_) (fun f=>?_)
  ·refine af a 0 rfl bi aG rfl ?_;refine fU ?_;refine iM f ?_;refine kP (fun g=>?_) (fun g=>?_)
   ·refine af a 0 rfl bl be rfl ?_;refine bQ ?_;refine iM g ?_;refine kP (fun l=>?_) (fun l=>done a ?_)
    ·refine af a 0 rfl ar al rfl ?_;refine aJ o ah ?_;refine bw ?_;refine iM l (done a ?_);rw [i,f,g,show decide (s=emptyB)=true from l];simp
    ·rw [i,f,g,show decide (s=emptyB)=false from l]; rfl
   ·refine qE (done a ?_);rw [i,f,g]; rfl
  ·refine qE (qE (done a ?_));rw [i,f]; rfl
 refine bw ?_;refine aL (fun q=>?_) (fun q=>done a ?_)
 ·have i:eB (.mk k n s ks)=(decide (n=0) && (lJ s && decide (ks.length<=4))):=by
   rw [eB]; exact (ag hk).trans ((ag m).trans (ai q))
  refine af a 0 rfl bi aG rfl ?_;refine bw ?_;refine kP (fun f=>?_) (fun f=>?_)
  ·refine af a 0 rfl bl be rfl ?_;refine Run.callPure FJ Ex a (BA s r S) fun w' a=>?_;refine iM f ?_;refine kP (fun g=>?_) (fun g=>done a ?_)
   ·refine af a 0 rfl ar al rfl ?_;refine aJ o ah ?_;refine fU ?_;refine iM g (done a ?_);rw [i,f,g];simp;omega
   ·rw [i,f,g]; rfl
  ·refine qE (done a ?_);rw [i,f]; rfl
 ·rw [eB];exact congrArg Value.bool ((ag hk).trans ((ag m).trans (ag q))).symm

theorem H6:∀ (t:T) (S:ae) (cs:List Value) (d:Int),RdT S cs t->-1<=d->d<=1000->Pure Tryz.prog OE [.agg cs.toArray,.int .i64 d] S (.bool (iC t d)):=by
 refine T.ind fun k n s ks U S cs d h h0 h1=>?_;intro w a;have J:=h;obtain ⟨kv,rfl,_,_,V,l⟩:=RdT.iff.1 h;simp only [T.name,T.kids,T.kind,T.n] at V l ⊢;have B:=l.le;simp only [maxLen] at B;refine zG.2 ?_;dsimp only[zG,bm];refine bJ a fun M w' a=>?_;refine ⟨fun t w'=>t=.bool (decide (d<1) || !eB (.mk k n s ks))/\Inv w [] [.blk M (.cells #[.int .i64 k,.int .i64 n,.string s,kv] ab)] S w',?_,?_⟩
 ·refine bS ?_;refine KU (fun h=>⟨by rw [h]; rfl,a⟩) (fun h=>?_);refine aC a 0 ad rfl rfl ?_;refine Run.callPure O1 P2 a (MG J) fun w' a=>?_;refine cw ?_;exact BM h ⟨by rw [h]; rfl,a⟩
 intro t _ _ _ _ _ _ w';rintro ⟨rfl,a⟩;refine aD (fun o=>done a ?_) (fun o=>?_)
 ·rw [iC];by_cases hd:d<1
  ·rw [ai hd]
  ·rw [ag hd];simp [hd] at o;rw [o]; rfl
 have hd:¬ d<1:=fun h=>by simp [h] at o
 have O:eB (.mk k n s ks)=true:=by simp [hd] at o; exact o
 refine ⟨fun i w'=>∃ j:Nat,j<=ks.length/\i=.int .i64 j/\iG (ks.drop j) (d - 1)=iG ks (d - 1)/\Inv w [] [.blk M (.cells #[.int .i64 k,.int .i64 n,.string s,kv] ab)] S w',
  fun i _=>ks.length - (intOf i).toNat,⟨0,bk _,rfl,rfl,a⟩,?_⟩
 intro Y _ _ _ _ _ _ _ _ _ _ _ _ _ _ _ _ _ w';rintro ⟨j,Z,rfl,f,a⟩;refine af a 0 rfl ar al rfl ?_;refine aJ l ah ?_;refine bS ?_;refine aL (fun D=>?_) (fun D=>?_)
 ·have m:j<ks.length:=by omega
  have g:iG (ks.drop j) (d - 1)=(iC ks[j] (d - 1) && iG (ks.drop (j+1)) (d - 1)):=by
   rw [dY m,iG]
  refine af a 0 rfl ar al rfl ?_;refine co a l ah ad m (fun _ _=>RdT.length) fun G q=>?_;refine kT (by omega) ?_;refine Run.callPure zw ye a (U _ (bG m) S G (d - 1) q (by omega) (by omega)) fun w' a=>?_;refine cw ?_;refine aD (fun r=>done a ?_) (fun N=>?_)
  ·simp at r;rw [iC,ag hd,O,<- f,g,r]; rfl
  ·simp at N;refine bC (by omega) ?_;exact ⟨⟨j+1,m,rfl,by rw [<- f,g,N]; rfl,a⟩,by simp [intOf]; omega⟩
 ·have:j=ks.length:=by omega
  subst this;refine done a ?_;rw [iC,ag hd,O,<- f,eC,iG]; rfl

theorem mN:∀ (ts:List T) (j:Nat) (h:j<ts.length),cY (ts.drop j)=dF ts[j]+cY (ts.drop (j+1)):=by
 intro ts j h;rw [dY h,cY]
theorem HW:∀ (t:T) (S:ae) (cs:List Value) (most:Int),RdT S cs t->0<=most->most<=1000->dF t<=4611686018427387904->Pure Tryz.prog NM [.agg cs.toArray,.int .i64 most] S (.int .i64 (lp t most)):=by
 refine T.ind fun k n s ks V S cs most h h0 h1 hc=>?_;intro w f;obtain ⟨kv,rfl,_,_,Y,g⟩:=RdT.iff.1 h;simp only [T.name,T.kids,T.kind,T.n] at Y g ⊢;have r:=g.le;simp only [maxLen] at r;rw [show dF (T.mk k n s ks)=1+cY ks from rfl] at hc;refine xM.2 ?_;dsimp only[xM,bm];refine bJ f fun M w' f=>?_;refine ⟨fun i m w'=>∃ (j:Nat) (c:Int),j<=ks.length/\i=.int .i64 j/\m=.int .i64 c/\1<=c/\c+cY (ks.drop j)<=1+cY ks/\gS (ks.drop j) c most=gS ks 1 most/\Inv w [] [.blk M (.cells #[.int .i64 k,.int .i64 n,.string s,kv] ab)] S w',
  fun i _ _=>ks.length - (intOf i).toNat,⟨0,1,bk _,rfl,rfl,by omega,by rw [ym]; omega,rfl,f⟩,?_⟩
 intro t6 _ _ t5 _ _ _ _ _ _ _ _ _ _ _ _ _ _ _ _ _ _ _ _ _ w';rintro ⟨j,c,hj,rfl,rfl,O,U,l,f⟩;refine ⟨fun t w'=>t=.bool (decide (j<ks.length) && decide (c<=most))/\Inv w [] [.blk M (.cells #[.int .i64 k,.int .i64 n,.string s,kv] ab)] S w',?_,?_⟩
 ·refine af f 0 rfl ar al rfl ?_;refine aJ g ah ?_;refine bS ?_;refine kP (fun h=>?_) (fun h=>⟨?_,f⟩)
  ·refine fU ?_;refine iM h ⟨?_,f⟩;rw [aN (show j<ks.length from by have:=of_decide_eq_true h; omega)]; rfl
  ·rw [ba (show ¬ j<ks.length from by have:=of_decide_eq_false h; omega)]; rfl
 intro t _ _ _ _ _ _ _ _ _ w';rintro ⟨rfl,f⟩;refine aD (fun D=>?_) (fun D=>done f ?_)
 ·simp at D;obtain ⟨a,J⟩:=D;have Z:=mN ks j a;have o:gS (ks.drop j) c most=gS (ks.drop (j+1)) (c+lp ks[j] (most - c)) most:=by
   rw [dY a,gS,ai J]
  have B:=Bo ks[j] (most - c) (by omega);have hp:=pU ks[j];have a0:=ef (ks.drop (j+1));have N:1<=lp ks[j] (most - c)/\lp ks[j] (most - c)<=dF ks[j]:=by
   by_cases hq:dF ks[j]<=most - c
   ·rw [B.1 hq]; omega
   ·have:=B.2 (by omega); omega
  refine af f 0 rfl ar al rfl ?_;refine co f g ah ad a (fun _ _=>RdT.length) fun G q=>?_;refine kT (by omega) ?_;refine Run.callPure xN zY f (V _ (bG a) S G (most - c) q (by omega) (by omega) (by omega)) fun w' f=>?_;refine bC (by omega) ?_;refine bC (by omega) ?_;exact ⟨⟨j+1,_,a,rfl,rfl,by omega,by omega,by rw [<- l,o],f⟩,by simp [intOf]; omega⟩
 ·show Value.int .i64 c=Value.int .i64 (gS ks 1 most);rw [<- l];by_cases a:j<ks.length
  ·simp [a] at D;rw [dY a,gS,ag (by omega)]
  ·rw [vK (by omega),gS]

mutual
theorem VU:∀ t:T,dF t<=1+(wT t:Int)
 | .mk k n s ks=>by
  rw [show dF (T.mk k n s ks)=1+cY ks from rfl,wT];have:=AM ks;omega
theorem AM:∀ ts:List T,cY ts<=ts.length+(wL ts:Int)
 | []=>by simp [cY,wL]
 | t::ts=>by
  rw [show cY (t::ts)=dF t+cY ts from rfl,wL,bq];have:=VU t; have:=AM ts;omega
end

theorem px {t:T} {S:ae} {cs:List Value} (h:RdT S cs t) (hc:dF t<=4611686018427387904):Pure Tryz.prog Hs [.agg cs.toArray] S (.bool (d6 t)):=by
 intro w a;have hl:=h.length;refine sN.2 ?_;dsimp only[sN,aO];refine bJ a fun g w' a=>?_;refine aC a 0 ad rfl (by simpa [Value.cells] using hl) ?_;refine Run.callPure zw ye a (H6 t S cs 30 h (by omega) (by omega)) fun w' a=>?_;refine kP (fun f=>?_) (fun f=>done a ?_)
 ·refine aC a 0 ad rfl (by simpa [Value.cells] using hl) ?_;refine Run.callPure xN zY a (HW t S cs 120 h (by omega) (by omega) hc) fun w' a=>?_;refine fU ?_;refine iM f (done a ?_);rw [d6,f,ST]; rfl
 ·rw [d6,f]; rfl
end
section
open Go Go.RowKit
attribute [local irreducible] Run CondV aq aK

def cn {α σ:Type} (step:σ->α->Bool × σ):σ->List α->Nat->Int × σ
 | st,[],_=>(-1,st)
 | st,x::xs,k=>if (step st x).1 then ((k:Int),(step st x).2) else cn step (step st x).2 xs (k+1)
def se {α σ:Type} (step:σ->α->Bool × σ):σ->List α->Bool × σ
 | st,[]=>(false,st)
 | st,x::xs=>if (step st x).1 then (true,(step st x).2) else se step (step st x).2 xs
theorem j9 {α σ:Type} (step:σ->α->Bool × σ):∀ (xs:List α) (st:σ) (k:Nat),decide (0<=(cn step st xs k).1)=(se step st xs).1/\(cn step st xs k).2=(se step st xs).2
 | [],st,k=>by simp [cn,se]
 | x::xs,st,k=>by
  by_cases h:(step st x).1=true
  ·simp [cn,se,h]
  ·simpa [cn,se,h] using j9 step xs (step st x).2 (k+1)
theorem jW {α:Type} (p:α->Bool):∀ xs:List α,se (σ:=Unit) (fun _ x=>(p x,())) () xs=(xs.any p,())
 | []=>rfl
 | x::xs=>by
  simp only [se,fB];cases h:p x with
  | true=>rfl
  | false=>rw [jW p xs]; rfl
abbrev fv (f:FuncId) (cap:List Value):Value:=.func (.func f) #[] cap.toArray
section
variable {P:Program} {w w0:World} {X:List Nat} {A I:List Item} {S:ae} {K:Value->World->Prop}
theorem Jz {P:Program} {f:FuncId} {fn:Func} {cap args:List Value} {w:World} (hf:P.funcs[f]?=some fn) (hn:(fn.name == "runtime.NumGoroutine" || fn.body.isNone)=false) :
  (ff (fv f cap) args).run P w=.ok (.enter f (args++cap).toArray) w:=by
 simp only [IQ] at hn
 have a:¬ fn.name = "runtime.NumGoroutine" := by simpa using hn.1
 have g:¬ fn.body=none:=fun e=>by rw [e] at hn; simp at hn
 simp [ff,Deferred.ofValue,invoke,callFunc,hf,a,g]
theorem Run.callV {f:FuncId} {fn:Func} {cap args:List Value} {Post:Value->List Item->ae->Prop}
  (hf:P.funcs[f]?=some fn) (hn:(fn.name == "runtime.NumGoroutine" || fn.body.isNone)=false) (h:Inv w0 X (A++I) S w) (hc:Tri P f (args++cap) I S Post)
  (hk:∀ v I' S' w',Post v I' S'->Sle S S'->Inv w0 X (A++I') S' w'->K v w'):Run P (ff (fv f cap) args) w K:=by
 unfold Run;rw [Jz hf hn];refine (hc w (h.sub (dH A I)).begin).mono ?_;rintro e w' ⟨v,I',S',rfl,g,a,i⟩;exact hk v I' S' w' i a.1 (Inv.step h g a.2)
end
structure Cb (P:Program) (f:FuncId) (fn:Func) {α σ:Type} (cap:List Value) (S:ae) (It:σ->List Item) (ok:σ->Prop) (step:σ->α->Bool × σ) (R:Value->α->Prop) (xs:List α):Prop where
 hf:P.funcs[f]?=some fn
 hn:(fn.name == "runtime.NumGoroutine" || fn.body.isNone)=false
 keep:∀ st x,x∈xs->ok st->(step st x).1=false->ok (step st x).2
 call:∀ st x v,x∈xs->ok st->R v x->Tri P f (v::cap) (It st) S fun r I' S'=>r=.bool (step st x).1/\I'=It (step st x).2/\S'=S
theorem Cb.pure {P:Program} {f:FuncId} {fn:Func} {α:Type} {cap:List Value} {S:ae} {p:α->Bool} {R:Value->α->Prop} {xs:List α} (L:List Item) (hf:P.funcs[f]?=some fn) (hn:(fn.name == "runtime.NumGoroutine" || fn.body.isNone)=false)
  (h:∀ x v,x∈xs->R v x->Tri P f (v::cap) L S fun r I' S'=>r=.bool (p x)/\I'=L/\S'=S):Cb P f fn cap S (fun _:Unit=>L) (fun _=>True) (fun _ x=>(p x,())) R xs:=
 ⟨hf,hn,fun _ _ _ _ _=>trivial,fun _ x v a _ hR=>h x v a hR⟩

theorem yR {σ:Type} {f:FuncId} {fn:Func} {cap:List Value} {S:ae} {It:σ->List Item} {ok:σ->Prop} {step:σ->T->Bool × σ} {xs:List T} {v:Value}
  (m:Cb Tryz.prog f fn cap S It ok step (fun v x=>∃ cs,v=.agg cs.toArray/\RdT S cs x) xs) (h:RdSl S 4 (RdT S) v xs) {st:σ} (G:ok st) :
  Tri Tryz.prog mn [v,fv f cap] (It st) S fun r I' S'=>r=.int .i64 (cn step st xs 0).1/\I'=It (cn step st xs 0).2/\S'=S:=by
 intro w q;have B:=h.le;simp only [maxLen] at B;refine fG.2 ?_;dsimp only[fG,bm];refine aJ h ah ?_;refine ⟨fun i w'=>∃ (k:Nat) (g:σ),k<=xs.length/\i=.int .i64 k/\ok g/\cn step g (xs.drop k) k=cn step st xs 0/\Inv w (bP (It st)) (It g) S w',fun i _=>xs.length - (intOf i).toNat,
  ⟨0,st,bk _,rfl,G,rfl,q⟩,?_⟩
 intro O _ _ _ _ _ _ _ _ _ _ _ _ w';rintro ⟨k,g,hk,rfl,t,l,q⟩;refine bS ?_;refine aL (fun J=>?_) (fun J=>?_)
 ·have o:k<xs.length:=by omega
  have N:=bG o;have a:cn step g (xs.drop k) k=if (step g xs[k]).1 then ((k:Int),(step g xs[k]).2) else cn step (step g xs[k]).2 (xs.drop (k+1)) (k+1):=by
   rw [dY o,cn]
  refine co q h ah ad o (fun _ _=>RdT.length) fun cs M=>?_;refine Run.callV (A:=[]) (args:=[.agg cs.toArray]) m.hf m.hn (by simpa using q) (m.call g _ _ N t ⟨cs,rfl,M⟩) fun U I' S' w'=>?_;rintro ⟨rfl,rfl,rfl⟩ _ q;refine aD (fun D=>?_) (fun D=>?_)
  ·rw [ai D] at a;refine ⟨_,_,_,rfl,by simpa using q,Ext.refl _ _ _,?_,?_,rfl⟩
   ·rw [<- l,a]
   ·rw [<- l,a]
  ·refine bC (by omega) ?_;rw [D] at a;refine ⟨⟨k+1,_,o,rfl,m.keep g _ N t D,?_,by simpa using q⟩,by simp [intOf]; omega⟩;rw [<- l,a];rfl
 ·have:k=xs.length:=by omega
  subst this;rw [eC,cn] at l;exact ⟨_,_,_,rfl,q,Ext.refl _ _ _,by rw [<- l],by rw [<- l],rfl⟩
theorem gY {σ:Type} {f:FuncId} {fn:Func} {cap:List Value} {S:ae} {It:σ->List Item} {ok:σ->Prop} {step:σ->T->Bool × σ} {xs:List T} {v:Value}
  (a:Cb Tryz.prog f fn cap S It ok step (fun v x=>∃ cs,v=.agg cs.toArray/\RdT S cs x) xs) (h:RdSl S 4 (RdT S) v xs) {st:σ} (g:ok st) :
  Tri Tryz.prog jN [v,fv f cap] (It st) S fun r I' S'=>r=.bool (se step st xs).1/\I'=It (se step st xs).2/\S'=S:=by
 intro w i;refine eM.2 ?_;dsimp only[eM,bm];refine Run.call (A:=[]) lF lH (by simpa using i) (yR a h g) fun m I' S' w'=>?_;rintro ⟨rfl,rfl,rfl⟩ _ i;refine jM ?_;have l:=j9 step xs st 0;exact ⟨_,_,_,rfl,by simpa using i,Ext.refl _ _ _,by rw [l.1],by rw [l.2],rfl⟩
theorem vu {σ:Type} {f:FuncId} {fn:Func} {cap:List Value} {S:ae} {It:σ->List Item} {ok:σ->Prop} {step:σ->C->Bool × σ} {xs:List C} {v:Value}
  (m:Cb Tryz.prog f fn cap S It ok step (fun v x=>∃ cs,v=.agg cs.toArray/\RdC S cs x) xs) (h:RdSl S 5 (RdC S) v xs) {st:σ} (G:ok st) :
  Tri Tryz.prog tF [v,fv f cap] (It st) S fun r I' S'=>r=.int .i64 (cn step st xs 0).1/\I'=It (cn step st xs 0).2/\S'=S:=by
 intro w q;have B:=h.le;simp only [maxLen] at B;refine jL.2 ?_;dsimp only[jL,bm];refine aJ h bf ?_;refine ⟨fun i w'=>∃ (k:Nat) (g:σ),k<=xs.length/\i=.int .i64 k/\ok g/\cn step g (xs.drop k) k=cn step st xs 0/\Inv w (bP (It st)) (It g) S w',fun i _=>xs.length - (intOf i).toNat,
  ⟨0,st,bk _,rfl,G,rfl,q⟩,?_⟩
 intro O _ _ _ _ _ _ _ _ _ _ _ _ w';rintro ⟨k,g,hk,rfl,t,l,q⟩;refine bS ?_;refine aL (fun J=>?_) (fun J=>?_)
 ·have o:k<xs.length:=by omega
  have N:=bG o;have a:cn step g (xs.drop k) k=if (step g xs[k]).1 then ((k:Int),(step g xs[k]).2) else cn step (step g xs[k]).2 (xs.drop (k+1)) (k+1):=by
   rw [dY o,cn]
  refine co q h bf aH o (fun _ _=>RdC.length) fun cs M=>?_;refine Run.callV (A:=[]) (args:=[.agg cs.toArray]) m.hf m.hn (by simpa using q) (m.call g _ _ N t ⟨cs,rfl,M⟩) fun U I' S' w'=>?_;rintro ⟨rfl,rfl,rfl⟩ _ q;refine aD (fun D=>?_) (fun D=>?_)
  ·rw [ai D] at a;refine ⟨_,_,_,rfl,by simpa using q,Ext.refl _ _ _,?_,?_,rfl⟩
   ·rw [<- l,a]
   ·rw [<- l,a]
  ·refine bC (by omega) ?_;rw [D] at a;refine ⟨⟨k+1,_,o,rfl,m.keep g _ N t D,?_,by simpa using q⟩,by simp [intOf]; omega⟩;rw [<- l,a];rfl
 ·have:k=xs.length:=by omega
  subst this;rw [eC,cn] at l;exact ⟨_,_,_,rfl,q,Ext.refl _ _ _,by rw [<- l],by rw [<- l],rfl⟩
theorem rg {σ:Type} {f:FuncId} {fn:Func} {cap:List Value} {S:ae} {It:σ->List Item} {ok:σ->Prop} {step:σ->C->Bool × σ} {xs:List C} {v:Value}
  (a:Cb Tryz.prog f fn cap S It ok step (fun v x=>∃ cs,v=.agg cs.toArray/\RdC S cs x) xs) (h:RdSl S 5 (RdC S) v xs) {st:σ} (g:ok st) :
  Tri Tryz.prog pq [v,fv f cap] (It st) S fun r I' S'=>r=.bool (se step st xs).1/\I'=It (se step st xs).2/\S'=S:=by
 intro w i;refine iO.2 ?_;dsimp only[iO,bm];refine Run.call (A:=[]) sq sn (by simpa using i) (vu a h g) fun m I' S' w'=>?_;rintro ⟨rfl,rfl,rfl⟩ _ i;refine jM ?_;have l:=j9 step xs st 0;exact ⟨_,_,_,rfl,by simpa using i,Ext.refl _ _ _,by rw [l.1],by rw [l.2],rfl⟩
end
end Go.Proofs.YtgllldjiaglkcaaGreatDoor
