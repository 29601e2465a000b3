/- Data that a function has made for itself: trees of blocks that nobody else knows. -/
import Derived.Test.YtgllldjiaglkcaaGreatDoorZMpS
import Derived.Test.YtgllldjiaglkcaaGreatDoorZMpF
import Derived.Test.YtgllldjiaglkcaaGreatDoorZMpgz
namespace Go.Proofs.YtgllldjiaglkcaaGreatDoor
section
open Go Go.RowKit
attribute [local irreducible] Run CondV az aO

abbrev bm:=List (Nat × Obj)
def bv (L:bm):List Item:=L.map fun p=>.blk p.1 p.2
theorem eC (L M:bm):bv (L++M)=bv L++bv M:=by simp [bv]
def Ins (S:ae) (L:bm):Prop:=∀ p∈L,S p.1=some p.2
theorem Ins.mono {S S':ae} {L:bm} (h:Ins S L) (hs:Sle S S'):Ins S' L:=fun p hp=>hs _ _ (h p hp)
theorem Ins.left {S:ae} {L M:bm} (h:Ins S (L++M)):Ins S L:=fun p hp=>h p (dy _ hp)
theorem Ins.right {S:ae} {L M:bm} (h:Ins S (L++M)):Ins S M:=fun p hp=>h p (iA _ hp)
theorem iP {L:bm} {b:Nat}:b∈bE (bv L)↔∃ p∈L,p.1=b:=by
 simp only [bE,bv,BT,eU]
 constructor
 ·rintro ⟨it,⟨p,hp,rfl⟩,hb⟩
  simp only [Item.foot,cd] at hb
  exact ⟨p,hp,hb.symm⟩
 ·rintro ⟨p,hp,rfl⟩
  exact ⟨_,⟨p,hp,rfl⟩,by simp [Item.foot]⟩

theorem Inv.publishAll {w0 w:World} {X:List Nat} {A:List Item}:∀ (L:bm) {S:ae},Inv w0 X (A++bv L) S w->
  ∃ S',Inv w0 X A S' w/\Sle S S'/\Ins S' L/\∀ b o,S' b=some o->S b=some o ∨ b∈bE (bv L)
 | [],S,h=>⟨S,by simpa [bv] using h,Sle.refl S,by intro p hp; simp at hp,fun b o hb=>.inl hb⟩
 | p::L,S,h=>by
  have hi:(A++bv (p::L))[A.length]?=some (.blk p.1 p.2):=by simp [bv]
  obtain ⟨h1,h2⟩:=h.publish hi
  have he:(A++bv (p::L)).eraseIdx A.length=A++bv L:=by simp [bv,List.eraseIdx_append_of_length_le]
  rw [he] at h1
  obtain ⟨S',h3,h4,h5,h6⟩:=publishAll L h1
  refine ⟨S',h3,h2.trans h4,fun q hq=>?_,fun b o hb=>?_⟩
  ·rcases bN.1 hq with rfl|hq
   ·exact h4 _ _ (by simp [mS])
   ·exact h5 q hq
  ·rcases h6 b o hb with h7|h7
   ·simp only [mS] at h7
    split at h7
    ·rename_i e; right; rw [iP]; exact ⟨p,aS ..,e.symm⟩
    ·exact .inl h7
   ·right
    obtain ⟨q,hq,e⟩:=iP.1 h7
    exact iP.2 ⟨q,aV _ hq,e⟩

def TrSl {α:Type} (k:Nat) (R:bm->List Value->α->Prop) (L:bm) (v:Value) (xs:List α):Prop:=
 ∃ a cap,v=.slice a xs.length cap/\xs.length<=cap/\cap<=maxLen/\
  ((xs=[]/\L=[]) ∨ ∃ b c E,∃ Ls:List bm,a=some ⟨b,0,none⟩/\L=(b,.cells c E)::Ls.flatten/\Ls.length=xs.length/\cap * k<=c.size/\
   ∀ i (h:i<xs.length) (h':i<Ls.length),R Ls[i] (aX c (i * k) k) xs[i])
inductive TrT:bm->List Value->T->Prop
 | nil {k n:Int} {s:ByteArray} {a:Option Addr} {cap:Nat} (hk:inI k) (hn:inI n) (hs:s.size<=maxLen) (hc:cap<=maxLen) :
   TrT [] [.int .i64 k,.int .i64 n,.string s,.slice a 0 cap] (.mk k n s [])
 | cons {k n:Int} {s:ByteArray} {kids:List T} {b cap:Nat} {c:Array Value} {E:TypeId} {Ls:List bm} (hk:inI k) (hn:inI n) (hs:s.size<=maxLen) (hl:kids.length<=cap) (hc:cap<=maxLen)
   (hLs:Ls.length=kids.length) (hsz:cap * 4<=c.size) (h:∀ i (h:i<kids.length) (h':i<Ls.length),TrT Ls[i] (aX c (i * 4) 4) kids[i]) :
   TrT ((b,.cells c E)::Ls.flatten) [.int .i64 k,.int .i64 n,.string s,.slice (some ⟨b,0,none⟩) kids.length cap] (.mk k n s kids)
theorem TrT.iff {L:bm} {cs:List Value} {t:T}:TrT L cs t ↔
  ∃ ks,cs=[.int .i64 t.kind,.int .i64 t.n,.string t.name,ks]/\inI t.kind/\inI t.n/\t.name.size<=maxLen/\TrSl 4 TrT L ks t.kids:=by
 constructor
 ·intro h
  cases h with
  | nil hk hn hs hc=>exact ⟨_,rfl,hk,hn,hs,_,_,rfl,be _,hc,.inl ⟨rfl,rfl⟩⟩
  | cons hk hn hs hl hc hLs hsz h=>exact ⟨_,rfl,hk,hn,hs,_,_,rfl,hl,hc,.inr ⟨_,_,_,_,rfl,rfl,hLs,hsz,h⟩⟩
 ·obtain ⟨k,n,s,kids⟩:=t
  rintro ⟨ks,rfl,hk,hn,hs,a,cap,rfl,hl,hc,h⟩
  rcases h with ⟨h,rfl⟩|⟨b,c,E,Ls,rfl,rfl,hLs,hsz,h⟩
  ·simp only [T.kids] at h
   subst h
   exact TrT.nil hk hn hs hc
  ·exact TrT.cons hk hn hs hl hc hLs hsz h
theorem TrT.length {L:bm} {cs:List Value} {t:T} (h:TrT L cs t):cs.length=4:=by
 obtain ⟨ks,rfl,_⟩:=TrT.iff.1 h; rfl
theorem TrT.one {L:bm} {cs:List Value} {t:T} (h:TrT L cs t):∀ u∈cs,u.oneCell'=true:=by
 obtain ⟨ks,rfl,_,_,_,a,cap,rfl,_⟩:=TrT.iff.1 h
 intro u hu
 simp at hu
 rcases hu with rfl|rfl|rfl|rfl <;> rfl
theorem RdT.one {S:ae} {cs:List Value} {t:T} (h:RdT S cs t):∀ u∈cs,u.oneCell'=true:=by
 obtain ⟨ks,rfl,_,_,_,a,cap,rfl,_⟩:=RdT.iff.1 h
 intro u hu
 simp at hu
 rcases hu with rfl|rfl|rfl|rfl <;> rfl
theorem E8 {S:ae} {Ls:List bm} (h:Ins S Ls.flatten) {i:Nat} (hi:i<Ls.length):Ins S Ls[i]:=
 fun p hp=>h p (Rt.2 ⟨_,bz hi,hp⟩)
theorem TrSl.rd {α:Type} {S:ae} {k:Nat} {R:bm->List Value->α->Prop} {R':List Value->α->Prop} {L:bm} {v:Value} {xs:List α} (h:TrSl k R L v xs) (hi:Ins S L)
  (hR:∀ L cs x,Ins S L->R L cs x->R' cs x):RdSl S k R' v xs:=by
 obtain ⟨a,cap,rfl,hl,hc,h⟩:=h
 refine ⟨a,cap,rfl,hl,hc,?_⟩
 rcases h with ⟨h,_⟩|⟨b,c,E,Ls,rfl,rfl,hLs,hsz,h⟩
 ·exact .inl h
 ·refine .inr ⟨b,0,c,E,(0,0),rfl,hi _ (aS ..),fun i h1=>?_⟩
  rw [cq]
  exact hR _ _ _ (E8 (fun p hp=>hi p (aV _ hp)) (by omega)) (h i h1 (by omega))
theorem TrT.rd {S:ae} {L:bm} {cs:List Value} {t:T} (h:TrT L cs t) (hi:Ins S L):RdT S cs t:=by
 induction h with
 | nil hk hn hs hc=>exact RdT.nil hk hn hs hc
 | cons hk hn hs hl hc hLs hsz h ih=>
  refine RdT.cons hk hn hs hl hc (hi _ (aS ..)) (o:=0) fun i h1=>?_
  rw [cq]
  exact ih i h1 (by omega) (E8 (fun p hp=>hi p (aV _ hp)) (by omega))
def TrC (L:bm) (cs:List Value) (c:C):Prop:=∃ hd ks L1 L2,cs=hd++[ks]/\L=L1++L2/\TrT L1 hd c.head/\TrSl 4 TrT L2 ks c.body
theorem TrC.rd {S:ae} {L:bm} {cs:List Value} {c:C} (h:TrC L cs c) (hi:Ins S L):RdC S cs c:=by
 obtain ⟨hd,ks,L1,L2,rfl,rfl,h1,h2⟩:=h
 exact ⟨hd,ks,rfl,h1.rd hi.left,h2.rd hi.right fun _ _ _ hi h=>h.rd hi⟩
theorem TrC.length {L:bm} {cs:List Value} {c:C} (h:TrC L cs c):cs.length=5:=by
 obtain ⟨hd,ks,L1,L2,rfl,rfl,h1,h2⟩:=h; simp [h1.length]
theorem TrC.one {L:bm} {cs:List Value} {c:C} (h:TrC L cs c):∀ u∈cs,u.oneCell'=true:=by
 obtain ⟨hd,ks,L1,L2,rfl,rfl,h1,a,cap,rfl,_⟩:=h
 intro u hu
 rcases bO.1 hu with hu|hu
 ·exact h1.one u hu
 ·simp at hu; subst hu; rfl

section
variable {P:Program} {w w0:World} {X:List Nat} {L:List Item} {S:ae} {K:Value->World->Prop}
theorem Run.call0 {f:FuncId} {fn:Func} {args:List Value} {Post:Value->List Item->ae->Prop}
  (hf:P.funcs[f]?=some fn) (hn:(fn.name == "runtime.NumGoroutine" || fn.body.isNone)=false) (h:Inv w0 X L S w) (hc:Tri P f args [] S Post)
  (hk:∀ v I' S' w',Post v I' S'->Sle S S'->Inv w0 X (L++I') S' w'->K v w'):Run P (eM (.func (.func f) #[] #[]) args) w K:=
 Run.call (A:=L) (I:=[]) hf hn (by simpa using h) hc hk
theorem du {T U ty ty' E:TypeId} {f d b:Nat} {c:Array Value} {v:Value} (hI:Inv w0 X L S w) (i:Nat) (hi:L[i]?=some (.blk b (.cells c E))) (hf:bG P T f=some d) (hU:jI P U=true) (hlt:Nat.blt d c.size=true)
  (hv:v.cells=#[v]) (h1:v.oneCell'=true)
  {K:Value->Value->World->Prop} (hk:∀ w',Inv w0 X (L.set i (.blk b (.cells (c.setIfInBounds d v) E))) S w'->K (.pointer (some ⟨b,d,none⟩)) undef w') :
  Run P (sOp (.fieldAddr T (.const (.pointer (some ⟨b,0,none⟩))) f) ty) w fun q w'=>Run P (sOp (.store U (.const q) (.const v)) ty') w' (K q):=by
 have hlt:d<c.size:=by simpa [Nat.blt_eq] using hlt
 refine au hf ?_
 rw [cq]
 refine cW hI i (n:=1) (by rw [hv]; rfl) (by rw [hU]; rfl) hi (by omega) (by rw [hv]; simpa using h1) fun w' hI'=>hk w' ?_
 have:bn c d v.cells.toList=c.setIfInBounds d v:=by
  rw [hv]
  apply F4.1
  simp only [bn,aaa]
  have hl:d<c.toList.length:=by simpa using hlt
  rw [GW,ai hl]
  simp
 rw [this] at hI'
 exact hI'
theorem PU {T ty E:TypeId} {o b n:Nat} {c:Array Value} {v:Value} (hI:Inv w0 X L S w) (i:Nat) (hi:L[i]?=some (.blk b (.cells c E))) (hT:sa P T=some n) (hn:v.cells.size=n) (hfit:Nat.ble (o+n) c.size=true)
  (h1:∀ u∈v.cells.toList,u.oneCell'=true) (hk:∀ w',Inv w0 X (L.set i (.blk b (.cells (bn c o v.cells.toList) E))) S w'->K undef w') :
  Run P (sOp (.store T (.const (.pointer (some ⟨b,o,none⟩))) (.const v)) ty) w K:=
 cW hI i hn (by rw [hT]; simp) hi (jw hfit) h1 hk
theorem aC {T ty E:TypeId} {b n:Nat} {c cs:Array Value} (hI:Inv w0 X L S w) (i:Nat) (hi:L[i]?=some (.blk b (.cells c E))) (hT:sa P T=some n) (hn:cs.size=n) (hc:c.size=n)
  (h1:∀ u∈cs.toList,u.oneCell'=true) (hk:∀ w',Inv w0 X (L.set i (.blk b (.cells cs E))) S w'->K undef w') :
  Run P (sOp (.store T (.const (.pointer (some ⟨b,0,none⟩))) (.const (.agg cs))) ty) w K:=by
 refine cW hI i (v:=.agg cs) (n:=n) hn (by rw [hT]; simp) hi (by omega) h1 fun w' hI'=>hk w' ?_
 have:bn c 0 (Value.agg cs).cells.toList=cs:=by
  rw [yt _ _ (by simp [Value.cells,hn,hc])]
  simp [Value.cells]
 rw [this] at hI'
 exact hI'
end

theorem TrSl.nil {α:Type} {k:Nat} {R:bm->List Value->α->Prop} {a:Option Addr} {cap:Nat} (hc:cap<=maxLen):TrSl k R [] (.slice a 0 cap) ([]:List α):=
 ⟨a,cap,rfl,be _,hc,.inl ⟨rfl,rfl⟩⟩
def Part {α:Type} (k:Nat) (R:bm->List Value->α->Prop) (c:Array Value) (Ls:List bm) (xs:List α):Prop:=
 Ls.length=xs.length/\∀ i (h:i<xs.length) (h':i<Ls.length),R Ls[i] (aX c (i * k) k) xs[i]
theorem Part.nil {α:Type} (k:Nat) (R:bm->List Value->α->Prop) (c:Array Value):Part k R c [] ([]:List α):=⟨rfl,fun i h=>by simp at h⟩
theorem Part.snoc {α:Type} {k:Nat} {R:bm->List Value->α->Prop} {c:Array Value} {Ls:List bm} {xs:List α} (h:Part k R c Ls xs) {cs:List Value} {L:bm} {x:α} (hx:R L cs x) (hl:cs.length=k)
  (hfit:(xs.length+1) * k<=c.size):Part k R (bn c (xs.length * k) cs) (Ls++[L]) (xs++[x]):=by
 have hf:xs.length * k+cs.length<=c.size:=by rw [hl]; rw [tJ,Nat.one_mul] at hfit; exact hfit
 refine ⟨by simp [h.1],fun i h1 h2=>?_⟩
 by_cases hi:i<xs.length
 ·have h3:i<Ls.length:=by rw [h.1]; exact hi
  rw [gJ h3,gJ hi,mQ hf]
  ·exact h.2 i hi h3
  ·left
   have:(i+1) * k<=xs.length * k:=ja _ hi
   rw [tJ,Nat.one_mul] at this
   exact this
 ·have hi':i=xs.length:=by simp at h1; omega
  subst hi'
  have h3:xs.length=Ls.length:=h.1.symm
  rw [gd (by omega),gd (by omega)]
  simp only [h3,eB,lG]
  rw [<- h3,<- hl,kq (by rw [hl] at hf ⊢; exact hf)]
  exact hx
theorem Part.sl {α:Type} {k:Nat} {R:bm->List Value->α->Prop} {b:Nat} {c:Array Value} {E:TypeId} {Ls:List bm} {xs:List α} {cap:Nat} (h:Part k R c Ls xs) (h1:xs.length<=cap) (h2:cap<=maxLen) (h3:cap * k<=c.size) :
  TrSl k R ((b,.cells c E)::Ls.flatten) (.slice (some ⟨b,0,none⟩) xs.length cap) xs:=
 ⟨_,cap,rfl,h1,h2,.inr ⟨b,c,E,Ls,rfl,rfl,h.1,h3,h.2⟩⟩
end
section
open Go Go.RowKit
section
variable {P:Program} {w:World} {K:Value->World->Prop} {ty:TypeId}
attribute [local irreducible] Run CondV az aO
theorem kT {a:Bool} {v:Value} {A:Prop} (ht:a=true->A) (hf:a=false->K (.bool false) w):az (.bool a) true A (Run P (sOp (.pick (.const (.bool a)) (.const v) (.const (.bool false))) ty) w K):=
 RI ht fun h=>by
  have h':a=false:=by simpa using h
  refine xP ?_
  rw [h']
  exact hf h'
theorem iy {a:Bool} {v u:Value} (ha:a=true) (hk:K v w):Run P (sOp (.pick (.const (.bool a)) (.const v) (.const u)) ty) w K:=by
 refine xP ?_
 rw [ha]
 exact hk
theorem qZ {v:Value} {A:Prop} (hk:K (.bool false) w):az (.bool false) true A (Run P (sOp (.pick (.const (.bool false)) (.const v) (.const (.bool false))) ty) w K):=
 kT (fun h=>by cases h) fun _=>hk
theorem Mi {a:Bool} {v:Value} {A:Prop} (ht:a=true->K (.bool true) w) (hf:a=false->A):az (.bool a) false A (Run P (sOp (.pick (.const (.bool a)) (.const (.bool true)) (.const v)) ty) w K):=
 RI hf fun h=>by
  have h':a=true:=by simpa using h
  refine xP ?_
  rw [h']
  exact ht h'
theorem C9 {a:Bool} {v u:Value} (ha:a=false) (hk:K v w):Run P (sOp (.pick (.const (.bool a)) (.const u) (.const v)) ty) w K:=by
 refine xP ?_
 rw [ha]
 exact hk
theorem abP {v:Value} {A:Prop} (hk:K (.bool true) w):az (.bool true) false A (Run P (sOp (.pick (.const (.bool true)) (.const (.bool true)) (.const v)) ty) w K):=
 Mi (fun _=>hk) fun h=>by cases h
end

def zV (cs:List Value) (s:ByteArray):Prop:=cs=[.string s]
def jz (cs:List Value) (n:Int):Prop:=cs=[.int .i64 n]
section
variable {P:Program} {w w0:World} {X:List Nat} {L:List Item} {S:ae} {K:Value->World->Prop}
attribute [local irreducible] Run CondV az aO
theorem wX (h:Inv w0 X L S w) {s:Sem Next} {v:Nat->Value} {o:Obj} (hr:s.run P w=.ok (.value (v w.heap.size)) { w with heap:=w.heap.push o })
  (hk:∀ b w',Inv w0 X (L++[.blk b o]) S w'->K (v b) w'):Run P s w K:=Run.of hr (hk _ _ (h.alloc o))
theorem Inv.publishLast {b:Nat} {o:Obj} (h:Inv w0 X (L++[.blk b o]) S w):Inv w0 X L (mS S b o) w/\Sle S (mS S b o):=by
 have hi:(L++[Item.blk b o])[L.length]?=some (.blk b o):=by simp
 have:=h.publish hi
 rwa [show (L++[Item.blk b o]).eraseIdx L.length=L by simp [List.eraseIdx_append_of_length_le]] at this
theorem i5 {α:Type} {T U ty ty' E:TypeId} {R:List Value->α->Prop} {v u:Value} {xs:List α} (hI:Inv w0 X L S w) (h:RdSl S 1 R v xs) (hu:cG P T=some (E,1)) (hU:jI P U=true)
  {i:Nat} (hi:i<xs.length) (hR:∀ cs,R cs xs[i]->cs=[u]) {K:Value->Value->World->Prop} (hk:K (elP v (i * 1)) u w) :
  Run P (sOp (.indexAddr T (.const v) (.const (.int .i64 i))) ty) w fun p w'=>Run P (sOp (.load U (.const p)) ty') w' (K p):=by
 obtain ⟨b,o,cap,c,E',fz,rfl,hS,hr⟩:=h.at_ hi
 refine aE hu hi ?_
 refine ct hU ?_ hk
 rw [hI.cellS hS]
 exact aH (hR _ hr) 0 u rfl
end
theorem RdSl.ofCells {α:Type} {S:ae} {R:List Value->α->Prop} {b n:Nat} {c:Array Value} {E:TypeId} {fz:Nat × Nat} {xs:List α} (hS:S b=some (.cells c E fz)) (hn:xs.length=n) (hm:n<=maxLen)
  (h:∀ i (h:i<xs.length),R (aX c i 1) xs[i]):RdSl S 1 R (.slice (some ⟨b,0,none⟩) n n) xs:=by
 subst hn
 exact ⟨_,_,rfl,aW _,hm,.inr ⟨b,0,c,E,fz,rfl,hS,fun i hi=>by rw [cq,Nat.mul_one]; exact h i hi⟩⟩
end
section
open Go

def signs:List ByteArray:=[⟨#[43]⟩,⟨#[45]⟩,⟨#[42]⟩,⟨#[47,47]⟩,⟨#[61]⟩,⟨#[92,61]⟩,⟨#[61,61]⟩,⟨#[60]⟩,⟨#[62]⟩,⟨#[61,60]⟩,⟨#[62,61]⟩,⟨#[61,58,61]⟩,⟨#[46]⟩,⟨#[91,93]⟩,⟨#[33]⟩]
def tT (b:UInt8):Bool:=decide (97<=b.toNat) && decide (b.toNat<=122)
def uI (s:ByteArray):Bool:=s.data.toList.all tT
def m8 (s:ByteArray):Bool:=uI s && (decide (1<=s.size) && decide (s.size<=6))
def lH (s:ByteArray):Bool:=m8 s || signs.any fun x=>decide (x=s)
def emptyB:ByteArray:=⟨#[]⟩
def ed (t:T):Bool:=
 if t.kind=1 then decide (0<=t.n) && (decide (t.n<=25) && (decide (t.name=emptyB) && decide (t.kids.length=0)))
 else if t.kind=2 then decide (-999<=t.n) && (decide (t.n<=999) && (decide (t.name=emptyB) && decide (t.kids.length=0)))
 else if t.kind=3 then decide (t.n=0) && (lH t.name && decide (t.kids.length<=4))
 else false
mutual
def dV:T->Int->Bool
 | .mk k n s ks,d=>if d<1 then false else ed (.mk k n s ks) && dJ ks (d - 1)
def dJ:List T->Int->Bool
 | [],_=>true
 | t::ts,d=>dV t d && dJ ts d
end
mutual
def ew:T->Int
 | .mk _ _ _ ks=>1+cV ks
def cV:List T->Int
 | []=>0
 | t::ts=>ew t+cV ts
end
mutual
def lu:T->Int->Int
 | .mk _ _ _ ks,most=>gV ks 1 most
def gV:List T->Int->Int->Int
 | [],n,_=>n
 | t::ts,n,most=>if n<=most then gV ts (n+lu t (most - n)) most else n
end
def dt (t:T):Bool:=dV t 30 && decide (ew t<=120)

mutual
theorem AC:∀ t:T,1<=ew t
 | .mk _ _ _ ks=>by simp only [ew]; have:=eL ks; omega
theorem eL:∀ ts:List T,0<=cV ts
 | []=>by simp [cV]
 | t::ts=>by simp only [cV]; have:=AC t; have:=eL ts; omega
end
mutual
theorem Bo:∀ (t:T) (most:Int),0<=most->(ew t<=most->lu t most=ew t)/\(most<ew t->most<lu t most/\lu t most<=ew t)
 | .mk _ _ _ ks,most,h=>by
  simp only [ew,lu]
  have:=Lo ks 1 most h (by omega)
  exact this
theorem Lo:∀ (ts:List T) (n most:Int),0<=most->1<=n->(n+cV ts<=most->gV ts n most=n+cV ts)/\(most<n+cV ts->most<gV ts n most/\gV ts n most<=n+cV ts)
 | [],n,most,h,h1=>by
  simp only [cV,gV]
  exact ⟨fun _=>by omega,fun _=>by omega⟩
 | t::ts,n,most,h,h1=>by
  simp only [cV,gV]
  have hp:=AC t
  have hl:=eL ts
  by_cases hn:n<=most
  ·rw [ai hn]
   have ht:=Bo t (most - n) (by omega)
   by_cases hc:ew t<=most - n
   ·rw [ht.1 hc]
    have hr:=Lo ts (n+ew t) most h (by omega)
    exact ⟨fun h2=>by rw [hr.1 (by omega)]; omega,fun h2=>by have:=hr.2 (by omega); omega⟩
   ·have h3:=ht.2 (by omega)
    have h4:gV ts (n+lu t (most - n)) most=n+lu t (most - n):=by
     cases ts with
     | nil=>rfl
     | cons u us=>rw [gV,ah (by omega)]
    rw [h4]
    exact ⟨fun h2=>by omega,fun h2=>by omega⟩
  ·rw [ah hn]
   exact ⟨fun h2=>by omega,fun h2=>by omega⟩
end
theorem VH (t:T):decide (lu t 120<=120)=decide (ew t<=120):=by
 have h:=Bo t 120 (by omega)
 by_cases hc:ew t<=120
 ·rw [h.1 hc]
 ·have:=h.2 (by omega)
  rw [aP (by omega),aP hc]

mutual
def fY:T->Int->Int->Bool × Int
 | .mk k n s ks,deep,c=>
  if 120<c+1 ∨ 30<deep then (false,c+1)
  else if k=1 ∨ k=2 then (ed (.mk k n s ks),c+1)
  else if k=3 then (if ed (.mk k n s ks) then mH ks (deep+1) (c+1) else (false,c+1))
  else (false,c+1)
def mH:List T->Int->Int->Bool × Int
 | [],_,c=>(true,c)
 | t::ts,deep,c=>if (fY t deep c).1 then mH ts deep (fY t deep c).2 else (false,(fY t deep c).2)
end
theorem Pv {k n:Int} {s:ByteArray} {ks:List T} (h:ed (.mk k n s ks)=true) (hk:k=1 ∨ k=2):ks=[]:=by
 unfold ed at h
 simp only [T.kind,T.n,T.name,T.kids] at h
 rcases hk with rfl|rfl <;> simp at h <;> exact h.2.2.2
theorem X5 {k n:Int} {s:ByteArray} {ks:List T} (h:ed (.mk k n s ks)=true):k=1 ∨ k=2 ∨ k=3:=by
 unfold ed at h
 simp only [T.kind,T.n,T.name,T.kids] at h
 by_cases h1:k=1
 ·exact .inl h1
 ·by_cases h2:k=2
  ·exact .inr (.inl h2)
  ·by_cases h3:k=3
   ·exact .inr (.inr h3)
   ·simp [h1,h2,h3] at h
mutual
theorem Hz:∀ (t:T) (deep c:Int),(fY t deep c).1=(dV t (31 - deep) && decide (c+ew t<=120))/\((fY t deep c).1=true->(fY t deep c).2=c+ew t)
 | .mk k n s ks,deep,c=>by
  have hl:=eL ks
  rw [show ew (T.mk k n s ks)=1+cV ks from rfl]
  simp only [fY,dV]
  by_cases h1:120<c+1 ∨ 30<deep
  ·rw [ai h1]
   refine ⟨?_,fun h=>by cases h⟩
   rcases h1 with h1|h1
   ·rw [aP (show ¬ (c+(1+cV ks)<=120) by omega),kY]
   ·rw [ai (show 31 - deep<1 by omega)]; rfl
  ·rw [ah h1,ah (show ¬ (31 - deep<1) by omega)]
   by_cases h2:k=1 ∨ k=2
   ·rw [ai h2]
    cases ho:ed (.mk k n s ks) with
    | false=>exact ⟨rfl,fun h=>by cases h⟩
    | true=>
     have:=Pv ho h2
     subst this
     rw [show cV []=0 from rfl]
     simp only [dJ,dg]
     exact ⟨by rw [aI (show c+(1+0)<=120 by omega)],fun _=>by omega⟩
   ·rw [ah h2]
    by_cases h3:k=3
    ·rw [ai h3]
     cases ho:ed (.mk k n s ks) with
     | false=>exact ⟨rfl,fun h=>by cases h⟩
     | true=>
      simp only [if_true,dg]
      have:=Qx ks (deep+1) (c+1)
      rw [show 31 - (deep+1)=31 - deep - 1 by omega] at this
      rw [show c+(1+cV ks)=c+1+cV ks by omega]
      refine ⟨?_,this.2⟩
      rw [this.1]
      cases ks with
      | nil=>rw [show cV []=0 from rfl,aI (show c+1+0<=120 by omega)]; rfl
      | cons t ts=>simp
    ·rw [ah h3]
     have ho:ed (.mk k n s ks)=false:=by
      rw [<- Tq]
      intro h
      rcases X5 h with e|e|e
      ·exact h2 (.inl e)
      ·exact h2 (.inr e)
      ·exact h3 e
     rw [ho]
     exact ⟨rfl,fun h=>by cases h⟩
theorem Qx:∀ (ts:List T) (deep c:Int),(mH ts deep c).1=(dJ ts (31 - deep) && (ts.isEmpty || decide (c+cV ts<=120)))/\((mH ts deep c).1=true->(mH ts deep c).2=c+cV ts)
 | [],deep,c=>by simp [mH,dJ,cV]
 | t::ts,deep,c=>by
  have ht:=Hz t deep c
  have hp:=eL ts
  rw [show cV (t::ts)=ew t+cV ts from rfl]
  simp only [mH,dJ,List.isEmpty_cons,fV]
  cases h1:(fY t deep c).1 with
  | false=>
   rw [h1] at ht
   have h2:=ht.1
   refine ⟨?_,fun h=>by cases h⟩
   simp only [JS,if_false]
   cases hs:dV t (31 - deep) with
   | false=>rfl
   | true=>
    rw [hs,dg] at h2
    have:¬ (c+ew t<=120):=of_decide_eq_false h2.symm
    rw [aP (show ¬ (c+(ew t+cV ts)<=120) by omega),kY]
  | true=>
   rw [h1] at ht
   have h2:=ht.1
   have h3:=ht.2 rfl
   simp only [if_true]
   rw [h3]
   have hs:dV t (31 - deep)=true/\c+ew t<=120:=by
    have:=h2.symm
    simpa using this
   have hl:=Qx ts deep (c+ew t)
   rw [show c+(ew t+cV ts)=c+ew t+cV ts by omega]
   refine ⟨?_,hl.2⟩
   rw [hl.1,hs.1,dg]
   cases ts with
   | nil=>rw [show cV []=0 from rfl,aI (show c+ew t+0<=120 by omega)]; rfl
   | cons u us=>simp
end
theorem QW (t:T):(fY t 1 0).1=dt t:=by
 rw [(Hz t 1 0).1,dt]
 simp
end
section
open Go Go.RowKit
attribute [local irreducible] Run CondV az aO

mutual
def wT:T->Nat
 | .mk _ _ s ks=>s.size+ks.length+wL ks
def wL:List T->Nat
 | []=>0
 | t::ts=>wT t+wL ts
end
theorem js:∀ {ts:List T} {t:T},t∈ts->wT t<=wL ts
 | x::xs,t,h=>by
  simp only [wL]
  rcases bN.1 h with rfl|h
  ·omega
  ·have:=js h; omega

abbrev TH {α:Type} (k:Nat) (R:bm->List Value->α->Prop) (S:ae) (xs:List α):Value->List Item->ae->Prop:=
 fun v I' S'=>S'=S/\∃ L,I'=bv L/\TrSl k R L v xs
abbrev G5 (S:ae) (t:T):Value->List Item->ae->Prop:=fun v I' S'=>S'=S/\∃ cs L,v=.agg cs.toArray/\I'=bv L/\TrT L cs t

def wC (c:C):Nat:=wT c.head+c.body.length+wL c.body
def wP:List C->Nat
 | []=>0
 | c::cs=>wC c+wP cs
theorem Nm:∀ {cs:List C} {c:C},c∈cs->wC c<=wP cs
 | x::xs,c,h=>by
  simp only [wP]
  rcases bN.1 h with rfl|h
  ·omega
  ·have:=Nm h; omega
abbrev aaZ (S:ae) (c:C):Value->List Item->ae->Prop:=fun v I' S'=>S'=S/\∃ cs L,v=.agg cs.toArray/\I'=bv L/\TrC L cs c
end
section
open Go Go.RowKit
attribute [local irreducible] Run CondV az aO

theorem pU {α:Type} (p:α->Bool) (l:List α) (k:Nat) (h:k<l.length):(l.drop k).all p=(p l[k] && (l.drop (k+1)).all p):=by
 rw [cU h,TQ]
theorem FD {α:Type} (p:α->Bool) (l:List α) (k:Nat) (h:k<l.length):(l.drop k).any p=(p l[k] || (l.drop (k+1)).any p):=by
 rw [cU h,fR]
theorem pj (s:ByteArray):s.data.toList.length=s.size:=by rw [Og]; rfl
theorem Qo (s:ByteArray) (k:Nat) (h:k<s.size):s.data.toList[k]'(by rw [pj]; exact h)=s[k]:=rfl

theorem yp (s:ByteArray) (hs:s.size<=maxLen) (S:ae):Pure Tryz.prog Q3 [.string s] S (.bool (m8 s)):=by
 intro w hI
 simp only [maxLen] at hs
 refine CW.2 ?_
 dsimp only[CW,aM]
 refine ⟨fun i w'=>∃ k:Nat,k<=s.size/\i=.int .i64 k/\(s.data.toList.drop k).all tT=uI s/\Inv w [] [] S w',fun i _=>s.size - (intOf i).toNat,⟨0,be _,rfl,rfl,hI⟩,?_⟩
 intro t3 _ _ _ _ _ _ _ _ _ _ _ _ _ _ _ _ _ w'
 rintro ⟨k,hk,rfl,hrel,hI⟩
 refine mj ba ?_
 refine bH ?_
 refine aL (fun hki=>?_) (fun hki=>?_)
 ·have hk':k<s.size:=by omega
  have hstep:=pU tT s.data.toList k (by rw [pj]; exact hk')
  rw [Qo s k hk'] at hstep
  refine ⟨fun t w'=>t=.bool (!tT s[k])/\Inv w [] [] S w',?_,?_⟩
  ·refine mh ba hk' ?_
   refine bH ?_
   refine Mi (fun h=>⟨?_,hI⟩) (fun h=>?_)
   ·have h:=of_decide_eq_true h
    rw [tT,aP (show ¬ 97<=s[k].toNat by omega)]; rfl
   ·refine mh ba hk' ?_
    refine dA ?_
    refine C9 h ⟨?_,hI⟩
    have h:=of_decide_eq_false h
    rw [tT,aI (show 97<=s[k].toNat by omega),dg]
    by_cases h2:s[k].toNat<=122
    ·rw [aI h2,aP (by omega)]; rfl
    ·rw [aP h2,aI (by omega)]; rfl
  intro t _ _ _ _ _ _ _ _ _ w'
  rintro ⟨rfl,hI⟩
  refine aw (fun h=>done hI ?_) (fun h=>?_)
  ·simp at h
   rw [m8,<- hrel,hstep,h]; rfl
  ·simp at h
   refine bp (by omega) ?_
   refine ⟨⟨k+1,hk',rfl,by rw [<- hrel,hstep,h]; rfl,hI⟩,by simp [intOf]; omega⟩
 ·have:k=s.size:=by omega
  subst this
  have hl:uI s=true:=by rw [<- hrel,<- pj,dO]; rfl
  refine mj ba ?_
  refine jS ?_
  refine kT (fun h=>?_) (fun h=>done hI ?_)
  ·refine mj ba ?_
   refine gy ?_
   refine iy h (done hI ?_)
   have h:=of_decide_eq_true h
   rw [m8,hl,aI (show 1<=s.size by omega)]
   by_cases h2:s.size<=6
   ·rw [aI h2,aI (by omega)]; rfl
   ·rw [aP h2,aP (by omega)]; rfl
  ·have h:=of_decide_eq_false h
   rw [m8,hl,aP (show ¬ 1<=s.size by omega)]; rfl

def AZ:Array Value:=(signs.map Value.string).toArray
theorem PH {S:ae} {b:Nat} {E:TypeId} (hS:S b=some (.cells AZ E)):RdSl S 1 zV (.slice (some ⟨b,0,none⟩) 15 15) signs:=by
 refine RdSl.ofCells hS rfl (by decide) ?_
 intro i hi
 have hi':i<15:=hi
 match i,hi' with
 | 0,_|1,_|2,_|3,_|4,_|5,_|6,_|7,_|8,_|9,_|10,_|11,_|12,_|13,_|14,_=>rfl
abbrev Kp (S:ae):Value->List Item->ae->Prop:=fun v I' S'=>I'=[]/\Sle S S'/\RdSl S' 1 zV v signs
theorem PX {S:ae} {b n:Nat} {o:Obj} (h:n<=b) (hs:Sle S (mS S b o)):Ext n [] S (mS S b o):=
 ⟨hs,fun c o' hc=>by
  simp only [mS] at hc
  split at hc
  ·rename_i e; subst e; exact .inr (.inr h)
  ·exact .inl hc⟩
theorem wu (S:ae):Tri Tryz.prog Qt [] [] S (Kp S):=by
 intro w hI
 refine Az.2 ?_
 dsimp only[Az,rv]
 refine wX (v:=fun b=>.slice (some ⟨b,0,none⟩) 15 15) (o:=.cells AZ g9) hI (by kernel_rfl) fun b w' hI=>?_
 have hnew:w.heap.size<=b:=by
  rcases hI.new b (by simp [bE,Item.foot]) with h|h
  ·simp [bE] at h
  ·exact h
 obtain ⟨h1,h2⟩:=Inv.publishLast (L:=[]) hI
 exact ⟨_,_,_,rfl,h1,PX hnew h2,rfl,h2,PH (by simp [mS]; rfl)⟩
theorem N1 (s:ByteArray) {xs:List ByteArray} {S:ae} {v:Value} (h:RdSl S 1 zV v xs):Pure Tryz.prog UO [v,.string s] S (.bool (xs.any fun x=>decide (x=s))):=by
 intro w hI
 have hlen:=h.le
 simp only [maxLen] at hlen
 refine GH.2 ?_
 dsimp only[GH,aY]
 refine ⟨fun i w'=>∃ k:Nat,k<=xs.length/\i=.int .i64 k/\(xs.drop k).any (fun x=>decide (x=s))=xs.any (fun x=>decide (x=s))/\Inv w [] [] S w',fun i _=>xs.length - (intOf i).toNat,⟨0,be _,rfl,rfl,hI⟩,?_⟩
 intro t3 _ _ _ _ _ _ _ _ _ _ _ _ _ w'
 rintro ⟨k,hk,rfl,hrel,hI⟩
 refine aF h cR ?_
 refine bH ?_
 refine aL (fun hki=>?_) (fun hki=>?_)
 ·have hk':k<xs.length:=by omega
  have hstep:=FD (fun x=>decide (x=s)) xs k hk'
  refine i5 hI h cR aU hk' (fun cs hcs=>hcs) ?_
  refine bS ?_
  refine aw (fun he=>done hI ?_) (fun he=>?_)
  ·rw [<- hrel,hstep,he]; rfl
  ·refine bp (by omega) ?_
   exact ⟨⟨k+1,hk',rfl,by rw [<- hrel,hstep,he]; rfl,hI⟩,by simp [intOf]; omega⟩
 ·have:k=xs.length:=by omega
  subst this
  exact done hI (by rw [<- hrel,dO]; rfl)
theorem fT {w w':World} {L:List Item} {S S':ae} {r r':Value} (h:Inv w [] L S' w') (hs:Sle S S') (e:r'=r):Ending.returned r'=.returned r/\Inv w [] [] S w':=⟨by rw [e],h.nil.less hs⟩
theorem BM (s:ByteArray) (hs:s.size<=maxLen) (S:ae):Pure Tryz.prog Ir [.string s] S (.bool (lH s)):=by
 intro w hI
 refine sT.2 ?_
 dsimp only[sT,aM]
 refine Run.callPure Dd CG hI (yp s hs S) fun w' hI=>?_
 refine Mi (fun h=>done hI ?_) (fun h=>?_)
 ·rw [lH,h]; rfl
 ·refine Run.call0 Ap zS hI (wu S) fun v' I' S' w'=>?_
  rintro ⟨rfl,_,hr⟩ hle hI
  refine Run.callPure St Sh hI (N1 s hr) fun w' hI=>?_
  refine C9 h (fT hI hle ?_)
  rw [lH,h]; rfl

theorem P9 {t:T} {S:ae} {cs:List Value} (h:RdT S cs t):Pure Tryz.prog U4 [.agg cs.toArray] S (.bool (ed t)):=by
 intro w hI
 obtain ⟨kv,rfl,_,_,hs,hks⟩:=RdT.iff.1 h
 obtain ⟨k,n,s,ks⟩:=t
 simp only [T.name,T.kids,T.kind,T.n] at hs hks ⊢
 refine Hp.2 ?_
 dsimp only[Hp,aM]
 refine bq hI fun b1 w' hI=>?_
 refine af hI 0 rfl aR aG rfl ?_
 refine bl ?_
 refine aL (fun hk=>?_) (fun hk=>?_)
 ·have ho:ed (.mk k n s ks)=(decide (0<=n) && (decide (n<=25) && (decide (s=emptyB) && decide (ks.length=0)))):=by
   rw [ed]; exact ai hk
  refine af hI 0 rfl bf aG rfl ?_
  refine jS ?_
  refine kT (fun h1=>?_) (fun h1=>?_)
  ·refine af hI 0 rfl bf aG rfl ?_
   refine gy ?_
   refine iy h1 ?_
   refine kT (fun h2=>?_) (fun h2=>?_)
   ·refine af hI 0 rfl bb aU rfl ?_
    refine bS ?_
    refine iy h2 ?_
    refine kT (fun h3=>?_) (fun h3=>done hI ?_)
    ·refine af hI 0 rfl ao aj rfl ?_
     refine aF hks ag ?_
     refine bl ?_
     refine iy h3 (done hI ?_)
     rw [ho,h1,h2,show decide (s=emptyB)=true from h3]
     simp
    ·rw [ho,h1,h2,show decide (s=emptyB)=false from h3]; rfl
   ·refine qZ (done hI ?_)
    rw [ho,h1,h2]; rfl
  ·refine qZ (qZ (done hI ?_))
   rw [ho,h1]; rfl
 refine bl ?_
 refine aL (fun hk2=>?_) (fun hk2=>?_)
 ·have ho:ed (.mk k n s ks)=(decide (-999<=n) && (decide (n<=999) && (decide (s=emptyB) && decide (ks.length=0)))):=by
   rw [ed]; exact (ah hk).trans (ai hk2)
  refine af hI 0 rfl bf aG rfl ?_
  refine jS ?_
  refine kT (fun h1=>?_) (fun h1=>?_)
  ·refine af hI 0 rfl bf aG rfl ?_
   refine gy ?_
   refine iy h1 ?_
   refine kT (fun h2=>?_) (fun h2=>?_)
   ·refine af hI 0 rfl bb aU rfl ?_
    refine bS ?_
    refine iy h2 ?_
    refine kT (fun h3=>?_) (fun h3=>done hI ?_)
    ·refine af hI 0 rfl ao aj rfl ?_
     refine aF hks ag ?_
     refine bl ?_
     refine iy h3 (done hI ?_)
     rw [ho,h1,h2,show decide (s=emptyB)=true from h3]
     simp
    ·rw [ho,h1,h2,show decide (s=emptyB)=false from h3]; rfl
   ·refine qZ (done hI ?_)
    rw [ho,h1,h2]; rfl
  ·refine qZ (qZ (done hI ?_))
   rw [ho,h1]; rfl
 refine bl ?_
 refine aL (fun hk3=>?_) (fun hk3=>done hI ?_)
 ·have ho:ed (.mk k n s ks)=(decide (n=0) && (lH s && decide (ks.length<=4))):=by
   rw [ed]; exact (ah hk).trans ((ah hk2).trans (ai hk3))
  refine af hI 0 rfl bf aG rfl ?_
  refine bl ?_
  refine kT (fun h1=>?_) (fun h1=>?_)
  ·refine af hI 0 rfl bb aU rfl ?_
   refine Run.callPure Hq F3 hI (BM s hs S) fun w' hI=>?_
   refine iy h1 ?_
   refine kT (fun h2=>?_) (fun h2=>done hI ?_)
   ·refine af hI 0 rfl ao aj rfl ?_
    refine aF hks ag ?_
    refine gy ?_
    refine iy h2 (done hI ?_)
    rw [ho,h1,h2]
    simp
    omega
   ·rw [ho,h1,h2]; rfl
  ·refine qZ (done hI ?_)
   rw [ho,h1]; rfl
 ·rw [ed]
  exact congrArg Value.bool ((ah hk).trans ((ah hk2).trans (ah hk3))).symm

theorem I0:∀ (t:T) (S:ae) (cs:List Value) (d:Int),RdT S cs t->-1<=d->d<=1000->Pure Tryz.prog P5 [.agg cs.toArray,.int .i64 d] S (.bool (dV t d)):=by
 refine T.ind fun k n s ks ih S cs d h h0 h1=>?_
 intro w hI
 have hcs:=h
 obtain ⟨kv,rfl,_,_,hs,hks⟩:=RdT.iff.1 h
 simp only [T.name,T.kids,T.kind,T.n] at hs hks ⊢
 have hlen:=hks.le
 simp only [maxLen] at hlen
 refine zr.2 ?_
 dsimp only[zr,aY]
 refine bq hI fun b1 w' hI=>?_
 refine ⟨fun t w'=>t=.bool (decide (d<1) || !ed (.mk k n s ks))/\Inv w [] [.blk b1 (.cells #[.int .i64 k,.int .i64 n,.string s,kv] ab)] S w',?_,?_⟩
 ·refine bH ?_
  refine Mi (fun h=>⟨by rw [h]; rfl,hI⟩) (fun h=>?_)
  refine av hI 0 ad rfl rfl ?_
  refine Run.callPure Sd Q1 hI (P9 hcs) fun w' hI=>?_
  refine bQ ?_
  exact C9 h ⟨by rw [h]; rfl,hI⟩
 intro t _ _ _ _ _ _ w'
 rintro ⟨rfl,hI⟩
 refine aw (fun hb=>done hI ?_) (fun hb=>?_)
 ·rw [dV]
  by_cases hd:d<1
  ·rw [ai hd]
  ·rw [ah hd]
   simp [hd] at hb
   rw [hb]; rfl
 have hd:¬ d<1:=fun h=>by simp [h] at hb
 have ho:ed (.mk k n s ks)=true:=by simp [hd] at hb; exact hb
 refine ⟨fun i w'=>∃ j:Nat,j<=ks.length/\i=.int .i64 j/\dJ (ks.drop j) (d - 1)=dJ ks (d - 1)/\Inv w [] [.blk b1 (.cells #[.int .i64 k,.int .i64 n,.string s,kv] ab)] S w',
  fun i _=>ks.length - (intOf i).toNat,⟨0,be _,rfl,rfl,hI⟩,?_⟩
 intro t5 _ _ _ _ _ _ _ _ _ _ _ _ _ _ _ _ _ w'
 rintro ⟨j,hj,rfl,hrel,hI⟩
 refine af hI 0 rfl ao aj rfl ?_
 refine aF hks ag ?_
 refine bH ?_
 refine aL (fun hji=>?_) (fun hji=>?_)
 ·have hj':j<ks.length:=by omega
  have hstep:dJ (ks.drop j) (d - 1)=(dV ks[j] (d - 1) && dJ (ks.drop (j+1)) (d - 1)):=by
   rw [cU hj',dJ]
  refine af hI 0 rfl ao aj rfl ?_
  refine cL hI hks ag ad hj' (fun _ _=>RdT.length) fun cs' hcs'=>?_
  refine mx (by omega) ?_
  refine Run.callPure yJ Ay hI (ih _ (bz hj') S cs' (d - 1) hcs' (by omega) (by omega)) fun w' hI=>?_
  refine bQ ?_
  refine aw (fun hne=>done hI ?_) (fun he=>?_)
  ·simp at hne
   rw [dV,ah hd,ho,<- hrel,hstep,hne]; rfl
  ·simp at he
   refine bp (by omega) ?_
   exact ⟨⟨j+1,hj',rfl,by rw [<- hrel,hstep,he]; rfl,hI⟩,by simp [intOf]; omega⟩
 ·have:j=ks.length:=by omega
  subst this
  refine done hI ?_
  rw [dV,ah hd,ho,<- hrel,dO,dJ]; rfl

theorem nh:∀ (ts:List T) (j:Nat) (h:j<ts.length),cV (ts.drop j)=ew ts[j]+cV (ts.drop (j+1)):=by
 intro ts j h
 rw [cU h,cV]
theorem IM:∀ (t:T) (S:ae) (cs:List Value) (most:Int),RdT S cs t->0<=most->most<=1000->ew t<=4611686018427387904->Pure Tryz.prog Pe [.agg cs.toArray,.int .i64 most] S (.int .i64 (lu t most)):=by
 refine T.ind fun k n s ks ih S cs most h h0 h1 hc=>?_
 intro w hI
 obtain ⟨kv,rfl,_,_,hs,hks⟩:=RdT.iff.1 h
 simp only [T.name,T.kids,T.kind,T.n] at hs hks ⊢
 have hlen:=hks.le
 simp only [maxLen] at hlen
 rw [show ew (T.mk k n s ks)=1+cV ks from rfl] at hc
 refine zG.2 ?_
 dsimp only[zG,aY]
 refine bq hI fun b1 w' hI=>?_
 refine ⟨fun i m w'=>∃ (j:Nat) (c:Int),j<=ks.length/\i=.int .i64 j/\m=.int .i64 c/\1<=c/\c+cV (ks.drop j)<=1+cV ks/\gV (ks.drop j) c most=gV ks 1 most/\Inv w [] [.blk b1 (.cells #[.int .i64 k,.int .i64 n,.string s,kv] ab)] S w',
  fun i _ _=>ks.length - (intOf i).toNat,⟨0,1,be _,rfl,rfl,by omega,by rw [Lb]; omega,rfl,hI⟩,?_⟩
 intro t6 _ _ t5 _ _ _ _ _ _ _ _ _ _ _ _ _ _ _ _ _ _ _ _ _ w'
 rintro ⟨j,c,hj,rfl,rfl,hc1,hc2,hrel,hI⟩
 refine ⟨fun t w'=>t=.bool (decide (j<ks.length) && decide (c<=most))/\Inv w [] [.blk b1 (.cells #[.int .i64 k,.int .i64 n,.string s,kv] ab)] S w',?_,?_⟩
 ·refine af hI 0 rfl ao aj rfl ?_
  refine aF hks ag ?_
  refine bH ?_
  refine kT (fun h=>?_) (fun h=>⟨?_,hI⟩)
  ·refine gy ?_
   refine iy h ⟨?_,hI⟩
   rw [aI (show j<ks.length from by have:=of_decide_eq_true h; omega)]; rfl
  ·rw [aP (show ¬ j<ks.length from by have:=of_decide_eq_false h; omega)]; rfl
 intro t _ _ _ _ _ _ _ _ _ w'
 rintro ⟨rfl,hI⟩
 refine aw (fun hb=>?_) (fun hb=>done hI ?_)
 ·simp at hb
  obtain ⟨hj',hcm⟩:=hb
  have hsp:=nh ks j hj'
  have hstep:gV (ks.drop j) c most=gV (ks.drop (j+1)) (c+lu ks[j] (most - c)) most:=by
   rw [cU hj',gV,ai hcm]
  have hct:=Bo ks[j] (most - c) (by omega)
  have hp:=AC ks[j]
  have hlp:=eL (ks.drop (j+1))
  have hcle:1<=lu ks[j] (most - c)/\lu ks[j] (most - c)<=ew ks[j]:=by
   by_cases hq:ew ks[j]<=most - c
   ·rw [hct.1 hq]; omega
   ·have:=hct.2 (by omega); omega
  refine af hI 0 rfl ao aj rfl ?_
  refine cL hI hks ag ad hj' (fun _ _=>RdT.length) fun cs' hcs'=>?_
  refine mx (by omega) ?_
  refine Run.callPure yz yr hI (ih _ (bz hj') S cs' (most - c) hcs' (by omega) (by omega) (by omega)) fun w' hI=>?_
  refine bp (by omega) ?_
  refine bp (by omega) ?_
  exact ⟨⟨j+1,_,hj',rfl,rfl,by omega,by omega,by rw [<- hrel,hstep],hI⟩,by simp [intOf]; omega⟩
 ·show Value.int .i64 c=Value.int .i64 (gV ks 1 most)
  rw [<- hrel]
  by_cases hj':j<ks.length
  ·simp [hj'] at hb
   rw [cU hj',gV,ah (by omega)]
  ·rw [jT (by omega),gV]

mutual
theorem L4:∀ t:T,ew t<=1+(wT t:Int)
 | .mk k n s ks=>by
  rw [show ew (T.mk k n s ks)=1+cV ks from rfl,wT]
  have:=BZ ks
  omega
theorem BZ:∀ ts:List T,cV ts<=ts.length+(wL ts:Int)
 | []=>by simp [cV,wL]
 | t::ts=>by
  rw [show cV (t::ts)=ew t+cV ts from rfl,wL,bw]
  have:=L4 t; have:=BZ ts
  omega
end

theorem pR {t:T} {S:ae} {cs:List Value} (h:RdT S cs t) (hc:ew t<=4611686018427387904):Pure Tryz.prog Jt [.agg cs.toArray] S (.bool (dt t)):=by
 intro w hI
 have hl:=h.length
 refine tR.2 ?_
 dsimp only[tR,aM]
 refine bq hI fun b1 w' hI=>?_
 refine av hI 0 ad rfl (by simpa [Value.cells] using hl) ?_
 refine Run.callPure yJ Ay hI (I0 t S cs 30 h (by omega) (by omega)) fun w' hI=>?_
 refine kT (fun h1=>?_) (fun h1=>done hI ?_)
 ·refine av hI 0 ad rfl (by simpa [Value.cells] using hl) ?_
  refine Run.callPure yz yr hI (IM t S cs 120 h (by omega) (by omega) hc) fun w' hI=>?_
  refine gy ?_
  refine iy h1 (done hI ?_)
  rw [dt,h1,VH]; rfl
 ·rw [dt,h1]; rfl
end
section
open Go Go.RowKit
attribute [local irreducible] Run CondV az aO

def co {α σ:Type} (step:σ->α->Bool × σ):σ->List α->Nat->Int × σ
 | st,[],_=>(-1,st)
 | st,x::xs,k=>if (step st x).1 then ((k:Int),(step st x).2) else co step (step st x).2 xs (k+1)
def lX {α σ:Type} (step:σ->α->Bool × σ):σ->List α->Bool × σ
 | st,[]=>(false,st)
 | st,x::xs=>if (step st x).1 then (true,(step st x).2) else lX step (step st x).2 xs
theorem jc {α σ:Type} (step:σ->α->Bool × σ):∀ (xs:List α) (st:σ) (k:Nat),decide (0<=(co step st xs k).1)=(lX step st xs).1/\(co step st xs k).2=(lX step st xs).2
 | [],st,k=>by simp [co,lX]
 | x::xs,st,k=>by
  by_cases h:(step st x).1=true
  ·simp [co,lX,h]
  ·simpa [co,lX,h] using jc step xs (step st x).2 (k+1)
theorem ip {α:Type} (p:α->Bool):∀ xs:List α,lX (σ:=Unit) (fun _ x=>(p x,())) () xs=(xs.any p,())
 | []=>rfl
 | x::xs=>by
  simp only [lX,fR]
  cases h:p x with
  | true=>rfl
  | false=>rw [ip p xs]; rfl
abbrev fv (f:FuncId) (cap:List Value):Value:=.func (.func f) #[] cap.toArray
section
variable {P:Program} {w w0:World} {X:List Nat} {A I:List Item} {S:ae} {K:Value->World->Prop}
theorem KK {P:Program} {f:FuncId} {fn:Func} {cap args:List Value} {w:World} (hf:P.funcs[f]?=some fn) (hn:(fn.name == "runtime.NumGoroutine" || fn.body.isNone)=false) :
  (eM (fv f cap) args).run P w=.ok (.enter f (args++cap).toArray) w:=by
 simp only [KU] at hn
 have h1:¬ fn.name = "runtime.NumGoroutine" := by simpa using hn.1
 have h2:¬ fn.body=none:=fun e=>by rw [e] at hn; simp at hn
 simp [eM,Deferred.ofValue,invoke,callFunc,hf,h1,h2]
theorem Run.callV {f:FuncId} {fn:Func} {cap args:List Value} {Post:Value->List Item->ae->Prop}
  (hf:P.funcs[f]?=some fn) (hn:(fn.name == "runtime.NumGoroutine" || fn.body.isNone)=false) (h:Inv w0 X (A++I) S w) (hc:Tri P f (args++cap) I S Post)
  (hk:∀ v I' S' w',Post v I' S'->Sle S S'->Inv w0 X (A++I') S' w'->K v w'):Run P (eM (fv f cap) args) w K:=by
 unfold Run
 rw [KK hf hn]
 refine (hc w (h.sub (ei A I)).begin).mono ?_
 rintro e w' ⟨v,I',S',rfl,hI,hE,hP⟩
 exact hk v I' S' w' hP hE.1 (Inv.step h hI hE.2)
end
structure Cb (P:Program) (f:FuncId) (fn:Func) {α σ:Type} (cap:List Value) (S:ae) (It:σ->List Item) (ok:σ->Prop) (step:σ->α->Bool × σ) (R:Value->α->Prop) (xs:List α):Prop where
 hf:P.funcs[f]?=some fn
 hn:(fn.name == "runtime.NumGoroutine" || fn.body.isNone)=false
 keep:∀ st x,x∈xs->ok st->(step st x).1=false->ok (step st x).2
 call:∀ st x v,x∈xs->ok st->R v x->Tri P f (v::cap) (It st) S fun r I' S'=>r=.bool (step st x).1/\I'=It (step st x).2/\S'=S
theorem Cb.pure {P:Program} {f:FuncId} {fn:Func} {α:Type} {cap:List Value} {S:ae} {p:α->Bool} {R:Value->α->Prop} {xs:List α} (L:List Item) (hf:P.funcs[f]?=some fn) (hn:(fn.name == "runtime.NumGoroutine" || fn.body.isNone)=false)
  (h:∀ x v,x∈xs->R v x->Tri P f (v::cap) L S fun r I' S'=>r=.bool (p x)/\I'=L/\S'=S):Cb P f fn cap S (fun _:Unit=>L) (fun _=>True) (fun _ x=>(p x,())) R xs:=
 ⟨hf,hn,fun _ _ _ _ _=>trivial,fun _ x v hx _ hR=>h x v hx hR⟩

theorem Ao {σ:Type} {f:FuncId} {fn:Func} {cap:List Value} {S:ae} {It:σ->List Item} {ok:σ->Prop} {step:σ->T->Bool × σ} {xs:List T} {v:Value}
  (hcb:Cb Tryz.prog f fn cap S It ok step (fun v x=>∃ cs,v=.agg cs.toArray/\RdT S cs x) xs) (h:RdSl S 4 (RdT S) v xs) {st:σ} (hok:ok st) :
  Tri Tryz.prog my [v,fv f cap] (It st) S fun r I' S'=>r=.int .i64 (co step st xs 0).1/\I'=It (co step st xs 0).2/\S'=S:=by
 intro w hI
 have hlen:=h.le
 simp only [maxLen] at hlen
 refine fQ.2 ?_
 dsimp only[fQ,aY]
 refine aF h ag ?_
 refine ⟨fun i w'=>∃ (k:Nat) (st':σ),k<=xs.length/\i=.int .i64 k/\ok st'/\co step st' (xs.drop k) k=co step st xs 0/\Inv w (bE (It st)) (It st') S w',fun i _=>xs.length - (intOf i).toNat,
  ⟨0,st,be _,rfl,hok,rfl,hI⟩,?_⟩
 intro t8 _ _ _ _ _ _ _ _ _ _ _ _ w'
 rintro ⟨k,st',hk,rfl,hok',hrel,hI⟩
 refine bH ?_
 refine aL (fun hki=>?_) (fun hki=>?_)
 ·have hk':k<xs.length:=by omega
  have hm:=bz hk'
  have hstep:co step st' (xs.drop k) k=if (step st' xs[k]).1 then ((k:Int),(step st' xs[k]).2) else co step (step st' xs[k]).2 (xs.drop (k+1)) (k+1):=by
   rw [cU hk',co]
  refine cL hI h ag ad hk' (fun _ _=>RdT.length) fun cs hcs=>?_
  refine Run.callV (A:=[]) (args:=[.agg cs.toArray]) hcb.hf hcb.hn (by simpa using hI) (hcb.call st' _ _ hm hok' ⟨cs,rfl,hcs⟩) fun v' I' S' w'=>?_
  rintro ⟨rfl,rfl,rfl⟩ _ hI
  refine aw (fun hb=>?_) (fun hb=>?_)
  ·rw [ai hb] at hstep
   refine ⟨_,_,_,rfl,by simpa using hI,Ext.refl _ _ _,?_,?_,rfl⟩
   ·rw [<- hrel,hstep]
   ·rw [<- hrel,hstep]
  ·refine bp (by omega) ?_
   rw [hb] at hstep
   refine ⟨⟨k+1,_,hk',rfl,hcb.keep st' _ hm hok' hb,?_,by simpa using hI⟩,by simp [intOf]; omega⟩
   rw [<- hrel,hstep]
   rfl
 ·have:k=xs.length:=by omega
  subst this
  rw [dO,co] at hrel
  exact ⟨_,_,_,rfl,hI,Ext.refl _ _ _,by rw [<- hrel],by rw [<- hrel],rfl⟩
theorem ft {σ:Type} {f:FuncId} {fn:Func} {cap:List Value} {S:ae} {It:σ->List Item} {ok:σ->Prop} {step:σ->T->Bool × σ} {xs:List T} {v:Value}
  (hcb:Cb Tryz.prog f fn cap S It ok step (fun v x=>∃ cs,v=.agg cs.toArray/\RdT S cs x) xs) (h:RdSl S 4 (RdT S) v xs) {st:σ} (hok:ok st) :
  Tri Tryz.prog jQ [v,fv f cap] (It st) S fun r I' S'=>r=.bool (lX step st xs).1/\I'=It (lX step st xs).2/\S'=S:=by
 intro w hI
 refine eO.2 ?_
 dsimp only[eO,aY]
 refine Run.call (A:=[]) lD lM (by simpa using hI) (Ao hcb h hok) fun v' I' S' w'=>?_
 rintro ⟨rfl,rfl,rfl⟩ _ hI
 refine jS ?_
 have he:=jc step xs st 0
 exact ⟨_,_,_,rfl,by simpa using hI,Ext.refl _ _ _,by rw [he.1],by rw [he.2],rfl⟩
theorem vm {σ:Type} {f:FuncId} {fn:Func} {cap:List Value} {S:ae} {It:σ->List Item} {ok:σ->Prop} {step:σ->C->Bool × σ} {xs:List C} {v:Value}
  (hcb:Cb Tryz.prog f fn cap S It ok step (fun v x=>∃ cs,v=.agg cs.toArray/\RdC S cs x) xs) (h:RdSl S 5 (RdC S) v xs) {st:σ} (hok:ok st) :
  Tri Tryz.prog sY [v,fv f cap] (It st) S fun r I' S'=>r=.int .i64 (co step st xs 0).1/\I'=It (co step st xs 0).2/\S'=S:=by
 intro w hI
 have hlen:=h.le
 simp only [maxLen] at hlen
 refine jN.2 ?_
 dsimp only[jN,aY]
 refine aF h b0 ?_
 refine ⟨fun i w'=>∃ (k:Nat) (st':σ),k<=xs.length/\i=.int .i64 k/\ok st'/\co step st' (xs.drop k) k=co step st xs 0/\Inv w (bE (It st)) (It st') S w',fun i _=>xs.length - (intOf i).toNat,
  ⟨0,st,be _,rfl,hok,rfl,hI⟩,?_⟩
 intro t8 _ _ _ _ _ _ _ _ _ _ _ _ w'
 rintro ⟨k,st',hk,rfl,hok',hrel,hI⟩
 refine bH ?_
 refine aL (fun hki=>?_) (fun hki=>?_)
 ·have hk':k<xs.length:=by omega
  have hm:=bz hk'
  have hstep:co step st' (xs.drop k) k=if (step st' xs[k]).1 then ((k:Int),(step st' xs[k]).2) else co step (step st' xs[k]).2 (xs.drop (k+1)) (k+1):=by
   rw [cU hk',co]
  refine cL hI h b0 bx hk' (fun _ _=>RdC.length) fun cs hcs=>?_
  refine Run.callV (A:=[]) (args:=[.agg cs.toArray]) hcb.hf hcb.hn (by simpa using hI) (hcb.call st' _ _ hm hok' ⟨cs,rfl,hcs⟩) fun v' I' S' w'=>?_
  rintro ⟨rfl,rfl,rfl⟩ _ hI
  refine aw (fun hb=>?_) (fun hb=>?_)
  ·rw [ai hb] at hstep
   refine ⟨_,_,_,rfl,by simpa using hI,Ext.refl _ _ _,?_,?_,rfl⟩
   ·rw [<- hrel,hstep]
   ·rw [<- hrel,hstep]
  ·refine bp (by omega) ?_
   rw [hb] at hstep
   refine ⟨⟨k+1,_,hk',rfl,hcb.keep st' _ hm hok' hb,?_,by simpa using hI⟩,by simp [intOf]; omega⟩
   rw [<- hrel,hstep]
   rfl
 ·have:k=xs.length:=by omega
  subst this
  rw [dO,co] at hrel
  exact ⟨_,_,_,rfl,hI,Ext.refl _ _ _,by rw [<- hrel],by rw [<- hrel],rfl⟩
theorem jB {σ:Type} {f:FuncId} {fn:Func} {cap:List Value} {S:ae} {It:σ->List Item} {ok:σ->Prop} {step:σ->C->Bool × σ} {xs:List C} {v:Value}
  (hcb:Cb Tryz.prog f fn cap S It ok step (fun v x=>∃ cs,v=.agg cs.toArray/\RdC S cs x) xs) (h:RdSl S 5 (RdC S) v xs) {st:σ} (hok:ok st) :
  Tri Tryz.prog pq [v,fv f cap] (It st) S fun r I' S'=>r=.bool (lX step st xs).1/\I'=It (lX step st xs).2/\S'=S:=by
 intro w hI
 refine iM.2 ?_
 dsimp only[iM,aY]
 refine Run.call (A:=[]) si se (by simpa using hI) (vm hcb h hok) fun v' I' S' w'=>?_
 rintro ⟨rfl,rfl,rfl⟩ _ hI
 refine jS ?_
 have he:=jc step xs st 0
 exact ⟨_,_,_,rfl,by simpa using hI,Ext.refl _ _ _,by rw [he.1],by rw [he.2],rfl⟩
end
end Go.Proofs.YtgllldjiaglkcaaGreatDoor
