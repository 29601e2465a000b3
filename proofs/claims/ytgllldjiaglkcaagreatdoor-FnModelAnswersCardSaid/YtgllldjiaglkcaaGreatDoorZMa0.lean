/- Data that a function has made for itself: trees of blocks that nobody else knows. -/
import Derived.Test.YtgllldjiaglkcaaGreatDoorZMaS
import Derived.Test.YtgllldjiaglkcaaGreatDoorZMaF
import Derived.Test.YtgllldjiaglkcaaGreatDoorZMagz
namespace Go.Proofs.YtgllldjiaglkcaaGreatDoor
section
open Go Go.RowKit
attribute [local irreducible] Run CondV aw aN

abbrev bn:=List (Nat × Obj)
def bv (L:bn):List Item:=L.map fun p=>.blk p.1 p.2
theorem eC (L M:bn):bv (L++M)=bv L++bv M:=by simp [bv]
def Ins (S:af) (L:bn):Prop:=∀ p∈L,S p.1=some p.2
theorem Ins.mono {S S':af} {L:bn} (h:Ins S L) (hs:Sle S S'):Ins S' L:=fun p hp=>hs _ _ (h p hp)
theorem Ins.left {S:af} {L M:bn} (h:Ins S (L++M)):Ins S L:=fun p hp=>h p (dg _ hp)
theorem Ins.right {S:af} {L M:bn} (h:Ins S (L++M)):Ins S M:=fun p hp=>h p (gA _ hp)
theorem iI {L:bn} {b:Nat}:b∈bI (bv L)↔∃ p∈L,p.1=b:=by
 simp only [bI,bv,oT,eF]
 constructor
 ·rintro ⟨it,⟨p,hp,rfl⟩,hb⟩
  simp only [Item.foot,bL] at hb
  exact ⟨p,hp,hb.symm⟩
 ·rintro ⟨p,hp,rfl⟩
  exact ⟨_,⟨p,hp,rfl⟩,by simp [Item.foot]⟩

theorem Inv.publishAll {w0 w:World} {X:List Nat} {A:List Item}:∀ (L:bn) {S:af},Inv w0 X (A++bv L) S w->
  ∃ S',Inv w0 X A S' w/\Sle S S'/\Ins S' L/\∀ b o,S' b=some o->S b=some o ∨ b∈bI (bv L)
 | [],S,h=>⟨S,by simpa [bv] using h,Sle.refl S,by intro p hp; simp at hp,fun b o hb=>.inl hb⟩
 | p::L,S,h=>by
  have hi:(A++bv (p::L))[A.length]?=some (.blk p.1 p.2):=by simp [bv]
  obtain ⟨h1,h2⟩:=h.publish hi
  have he:(A++bv (p::L)).eraseIdx A.length=A++bv L:=by simp [bv,List.eraseIdx_append_of_length_le]
  rw [he] at h1
  obtain ⟨S',h3,h4,h5,h6⟩:=publishAll L h1
  refine ⟨S',h3,h2.trans h4,fun q hq=>?_,fun b o hb=>?_⟩
  ·rcases bG.1 hq with rfl|hq
   ·exact h4 _ _ (by simp [jj])
   ·exact h5 q hq
  ·rcases h6 b o hb with h7|h7
   ·simp only [jj] at h7
    split at h7
    ·rename_i e; right; rw [iI]; exact ⟨p,aT ..,e.symm⟩
    ·exact .inl h7
   ·right
    obtain ⟨q,hq,e⟩:=iI.1 h7
    exact iI.2 ⟨q,aS _ hq,e⟩

def TrSl {α:Type} (k:Nat) (R:bn->List Value->α->Prop) (L:bn) (v:Value) (xs:List α):Prop:=
 ∃ a cap,v=.slice a xs.length cap/\xs.length<=cap/\cap<=maxLen/\
  ((xs=[]/\L=[]) ∨ ∃ b c E,∃ Ls:List bn,a=some ⟨b,0,none⟩/\L=(b,.cells c E)::Ls.flatten/\Ls.length=xs.length/\cap * k<=c.size/\
   ∀ i (h:i<xs.length) (h':i<Ls.length),R Ls[i] (aO c (i * k) k) xs[i])
inductive TrT:bn->List Value->T->Prop
 | nil {k n:Int} {s:ByteArray} {a:Option Addr} {cap:Nat} (hk:inI k) (hn:inI n) (hs:s.size<=maxLen) (hc:cap<=maxLen) :
   TrT [] [.int .i64 k,.int .i64 n,.string s,.slice a 0 cap] (.mk k n s [])
 | cons {k n:Int} {s:ByteArray} {kids:List T} {b cap:Nat} {c:Array Value} {E:TypeId} {Ls:List bn} (hk:inI k) (hn:inI n) (hs:s.size<=maxLen) (hl:kids.length<=cap) (hc:cap<=maxLen)
   (hLs:Ls.length=kids.length) (hsz:cap * 4<=c.size) (h:∀ i (h:i<kids.length) (h':i<Ls.length),TrT Ls[i] (aO c (i * 4) 4) kids[i]) :
   TrT ((b,.cells c E)::Ls.flatten) [.int .i64 k,.int .i64 n,.string s,.slice (some ⟨b,0,none⟩) kids.length cap] (.mk k n s kids)
theorem TrT.iff {L:bn} {cs:List Value} {t:T}:TrT L cs t ↔
  ∃ ks,cs=[.int .i64 t.kind,.int .i64 t.n,.string t.name,ks]/\inI t.kind/\inI t.n/\t.name.size<=maxLen/\TrSl 4 TrT L ks t.kids:=by
 constructor
 ·intro h
  cases h with
  | nil hk hn hs hc=>exact ⟨_,rfl,hk,hn,hs,_,_,rfl,be _,hc,.inl ⟨rfl,rfl⟩⟩
  | cons hk hn hs hl hc hLs hsz h=>exact ⟨_,rfl,hk,hn,hs,_,_,rfl,hl,hc,.inr ⟨_,_,_,_,rfl,rfl,hLs,hsz,h⟩⟩
 ·obtain ⟨k,n,s,kids⟩:=t
  rintro ⟨ks,rfl,hk,hn,hs,a,cap,rfl,hl,hc,h⟩
  rcases h with ⟨h,rfl⟩|⟨b,c,E,Ls,rfl,rfl,hLs,hsz,h⟩
  ·simp only [T.kids] at h
   subst h
   exact TrT.nil hk hn hs hc
  ·exact TrT.cons hk hn hs hl hc hLs hsz h
theorem TrT.length {L:bn} {cs:List Value} {t:T} (h:TrT L cs t):cs.length=4:=by
 obtain ⟨ks,rfl,_⟩:=TrT.iff.1 h; rfl
theorem TrT.one {L:bn} {cs:List Value} {t:T} (h:TrT L cs t):∀ u∈cs,u.oneCell'=true:=by
 obtain ⟨ks,rfl,_,_,_,a,cap,rfl,_⟩:=TrT.iff.1 h
 intro u hu
 simp at hu
 rcases hu with rfl|rfl|rfl|rfl <;> rfl
theorem RdT.one {S:af} {cs:List Value} {t:T} (h:RdT S cs t):∀ u∈cs,u.oneCell'=true:=by
 obtain ⟨ks,rfl,_,_,_,a,cap,rfl,_⟩:=RdT.iff.1 h
 intro u hu
 simp at hu
 rcases hu with rfl|rfl|rfl|rfl <;> rfl
theorem Fq {S:af} {Ls:List bn} (h:Ins S Ls.flatten) {i:Nat} (hi:i<Ls.length):Ins S Ls[i]:=
 fun p hp=>h p (Sz.2 ⟨_,bA hi,hp⟩)
theorem TrSl.rd {α:Type} {S:af} {k:Nat} {R:bn->List Value->α->Prop} {R':List Value->α->Prop} {L:bn} {v:Value} {xs:List α} (h:TrSl k R L v xs) (hi:Ins S L)
  (hR:∀ L cs x,Ins S L->R L cs x->R' cs x):RdSl S k R' v xs:=by
 obtain ⟨a,cap,rfl,hl,hc,h⟩:=h
 refine ⟨a,cap,rfl,hl,hc,?_⟩
 rcases h with ⟨h,_⟩|⟨b,c,E,Ls,rfl,rfl,hLs,hsz,h⟩
 ·exact .inl h
 ·refine .inr ⟨b,0,c,E,(0,0),rfl,hi _ (aT ..),fun i h1=>?_⟩
  rw [bR]
  exact hR _ _ _ (Fq (fun p hp=>hi p (aS _ hp)) (by omega)) (h i h1 (by omega))
theorem TrT.rd {S:af} {L:bn} {cs:List Value} {t:T} (h:TrT L cs t) (hi:Ins S L):RdT S cs t:=by
 induction h with
 | nil hk hn hs hc=>exact RdT.nil hk hn hs hc
 | cons hk hn hs hl hc hLs hsz h ih=>
  refine RdT.cons hk hn hs hl hc (hi _ (aT ..)) (o:=0) fun i h1=>?_
  rw [bR]
  exact ih i h1 (by omega) (Fq (fun p hp=>hi p (aS _ hp)) (by omega))
def TrC (L:bn) (cs:List Value) (c:C):Prop:=∃ hd ks L1 L2,cs=hd++[ks]/\L=L1++L2/\TrT L1 hd c.head/\TrSl 4 TrT L2 ks c.body
theorem TrC.rd {S:af} {L:bn} {cs:List Value} {c:C} (h:TrC L cs c) (hi:Ins S L):RdC S cs c:=by
 obtain ⟨hd,ks,L1,L2,rfl,rfl,h1,h2⟩:=h
 exact ⟨hd,ks,rfl,h1.rd hi.left,h2.rd hi.right fun _ _ _ hi h=>h.rd hi⟩
theorem TrC.length {L:bn} {cs:List Value} {c:C} (h:TrC L cs c):cs.length=5:=by
 obtain ⟨hd,ks,L1,L2,rfl,rfl,h1,h2⟩:=h; simp [h1.length]
theorem TrC.one {L:bn} {cs:List Value} {c:C} (h:TrC L cs c):∀ u∈cs,u.oneCell'=true:=by
 obtain ⟨hd,ks,L1,L2,rfl,rfl,h1,a,cap,rfl,_⟩:=h
 intro u hu
 rcases bJ.1 hu with hu|hu
 ·exact h1.one u hu
 ·simp at hu; subst hu; rfl

section
variable {P:Program} {w w0:World} {X:List Nat} {L:List Item} {S:af} {K:Value->World->Prop}
theorem Run.call0 {f:FuncId} {fn:Func} {args:List Value} {Post:Value->List Item->af->Prop}
  (hf:P.funcs[f]?=some fn) (hn:(fn.name == "runtime.NumGoroutine" || fn.body.isNone)=false) (h:Inv w0 X L S w) (hc:Tri P f args [] S Post)
  (hk:∀ v I' S' w',Post v I' S'->Sle S S'->Inv w0 X (L++I') S' w'->K v w'):Run P (eO (.func (.func f) #[] #[]) args) w K:=
 Run.call (A:=L) (I:=[]) hf hn (by simpa using h) hc hk
theorem dh {T U ty ty' E:TypeId} {f d b:Nat} {c:Array Value} {v:Value} (hI:Inv w0 X L S w) (i:Nat) (hi:L[i]?=some (.blk b (.cells c E))) (hf:bS P T f=some d) (hU:kC P U=true) (hlt:Nat.blt d c.size=true)
  (hv:v.cells=#[v]) (h1:v.oneCell'=true)
  {K:Value->Value->World->Prop} (hk:∀ w',Inv w0 X (L.set i (.blk b (.cells (c.setIfInBounds d v) E))) S w'->K (.pointer (some ⟨b,d,none⟩)) undef w') :
  Run P (sOp (.fieldAddr T (.const (.pointer (some ⟨b,0,none⟩))) f) ty) w fun q w'=>Run P (sOp (.store U (.const q) (.const v)) ty') w' (K q):=by
 have hlt:d<c.size:=by simpa [Nat.blt_eq] using hlt
 refine aB hf ?_
 rw [bR]
 refine c8 hI i (n:=1) (by rw [hv]; rfl) (by rw [hU]; rfl) hi (by omega) (by rw [hv]; simpa using h1) fun w' hI'=>hk w' ?_
 have:bl c d v.cells.toList=c.setIfInBounds d v:=by
  rw [hv]
  apply FW.1
  simp only [bl,abb]
  have hl:d<c.toList.length:=by simpa using hlt
  rw [Gx,ai hl]
  simp
 rw [this] at hI'
 exact hI'
theorem FI {T ty E:TypeId} {o b n:Nat} {c:Array Value} {v:Value} (hI:Inv w0 X L S w) (i:Nat) (hi:L[i]?=some (.blk b (.cells c E))) (hT:vE P T=some n) (hn:v.cells.size=n) (hfit:Nat.ble (o+n) c.size=true)
  (h1:∀ u∈v.cells.toList,u.oneCell'=true) (hk:∀ w',Inv w0 X (L.set i (.blk b (.cells (bl c o v.cells.toList) E))) S w'->K undef w') :
  Run P (sOp (.store T (.const (.pointer (some ⟨b,o,none⟩))) (.const v)) ty) w K:=
 c8 hI i hn (by rw [hT]; simp) hi (lC hfit) h1 hk
theorem aA {T ty E:TypeId} {b n:Nat} {c cs:Array Value} (hI:Inv w0 X L S w) (i:Nat) (hi:L[i]?=some (.blk b (.cells c E))) (hT:vE P T=some n) (hn:cs.size=n) (hc:c.size=n)
  (h1:∀ u∈cs.toList,u.oneCell'=true) (hk:∀ w',Inv w0 X (L.set i (.blk b (.cells cs E))) S w'->K undef w') :
  Run P (sOp (.store T (.const (.pointer (some ⟨b,0,none⟩))) (.const (.agg cs))) ty) w K:=by
 refine c8 hI i (v:=.agg cs) (n:=n) hn (by rw [hT]; simp) hi (by omega) h1 fun w' hI'=>hk w' ?_
 have:bl c 0 (Value.agg cs).cells.toList=cs:=by
  rw [zC _ _ (by simp [Value.cells,hn,hc])]
  simp [Value.cells]
 rw [this] at hI'
 exact hI'
end

theorem TrSl.nil {α:Type} {k:Nat} {R:bn->List Value->α->Prop} {a:Option Addr} {cap:Nat} (hc:cap<=maxLen):TrSl k R [] (.slice a 0 cap) ([]:List α):=
 ⟨a,cap,rfl,be _,hc,.inl ⟨rfl,rfl⟩⟩
def Part {α:Type} (k:Nat) (R:bn->List Value->α->Prop) (c:Array Value) (Ls:List bn) (xs:List α):Prop:=
 Ls.length=xs.length/\∀ i (h:i<xs.length) (h':i<Ls.length),R Ls[i] (aO c (i * k) k) xs[i]
theorem Part.nil {α:Type} (k:Nat) (R:bn->List Value->α->Prop) (c:Array Value):Part k R c [] ([]:List α):=⟨rfl,fun i h=>by simp at h⟩
theorem Part.snoc {α:Type} {k:Nat} {R:bn->List Value->α->Prop} {c:Array Value} {Ls:List bn} {xs:List α} (h:Part k R c Ls xs) {cs:List Value} {L:bn} {x:α} (hx:R L cs x) (hl:cs.length=k)
  (hfit:(xs.length+1) * k<=c.size):Part k R (bl c (xs.length * k) cs) (Ls++[L]) (xs++[x]):=by
 have hf:xs.length * k+cs.length<=c.size:=by rw [hl]; rw [ut,Nat.one_mul] at hfit; exact hfit
 refine ⟨by simp [h.1],fun i h1 h2=>?_⟩
 by_cases hi:i<xs.length
 ·have h3:i<Ls.length:=by rw [h.1]; exact hi
  rw [gt h3,gt hi,fN hf]
  ·exact h.2 i hi h3
  ·left
   have:(i+1) * k<=xs.length * k:=jr _ hi
   rw [ut,Nat.one_mul] at this
   exact this
 ·have hi':i=xs.length:=by simp at h1; omega
  subst hi'
  have h3:xs.length=Ls.length:=h.1.symm
  rw [fP (by omega),fP (by omega)]
  simp only [h3,eD,mF]
  rw [<- h3,<- hl,ie (by rw [hl] at hf ⊢; exact hf)]
  exact hx
theorem Part.sl {α:Type} {k:Nat} {R:bn->List Value->α->Prop} {b:Nat} {c:Array Value} {E:TypeId} {Ls:List bn} {xs:List α} {cap:Nat} (h:Part k R c Ls xs) (h1:xs.length<=cap) (h2:cap<=maxLen) (h3:cap * k<=c.size) :
  TrSl k R ((b,.cells c E)::Ls.flatten) (.slice (some ⟨b,0,none⟩) xs.length cap) xs:=
 ⟨_,cap,rfl,h1,h2,.inr ⟨b,c,E,Ls,rfl,rfl,h.1,h3,h.2⟩⟩
end
section
open Go Go.RowKit
attribute [local irreducible] Run CondV aw aN

mutual
def wT:T->Nat
 | .mk _ _ s ks=>s.size+ks.length+wL ks
def wL:List T->Nat
 | []=>0
 | t::ts=>wT t+wL ts
end
theorem jI:∀ {ts:List T} {t:T},t∈ts->wT t<=wL ts
 | x::xs,t,h=>by
  simp only [wL]
  rcases bG.1 h with rfl|h
  ·omega
  ·have:=jI h; omega

abbrev PC {α:Type} (k:Nat) (R:bn->List Value->α->Prop) (S:af) (xs:List α):Value->List Item->af->Prop:=
 fun v I' S'=>S'=S/\∃ L,I'=bv L/\TrSl k R L v xs
abbrev G4 (S:af) (t:T):Value->List Item->af->Prop:=fun v I' S'=>S'=S/\∃ cs L,v=.agg cs.toArray/\I'=bv L/\TrT L cs t

def wC (c:C):Nat:=wT c.head+c.body.length+wL c.body
def wP:List C->Nat
 | []=>0
 | c::cs=>wC c+wP cs
theorem LM:∀ {cs:List C} {c:C},c∈cs->wC c<=wP cs
 | x::xs,c,h=>by
  simp only [wP]
  rcases bG.1 h with rfl|h
  ·omega
  ·have:=LM h; omega
abbrev abA (S:af) (c:C):Value->List Item->af->Prop:=fun v I' S'=>S'=S/\∃ cs L,v=.agg cs.toArray/\I'=bv L/\TrC L cs c
end
section
open Go Go.RowKit
attribute [local irreducible] Run CondV aw aN

mutual
def eqT:T->T->Bool
 | .mk k n s ks,.mk k' n' s' ks'=>decide (k=k') && (decide (n=n') && (decide (s=s') && eqL ks ks'))
def eqL:List T->List T->Bool
 | [],[]=>true
 | t::ts,u::us=>eqT t u && eqL ts us
 | _,_=>false
end
mutual
theorem jJ:∀ a b:T,eqT a b=true↔a=b
 | .mk k n s ks,.mk k' n' s' ks'=>by
  simp only [eqT,bw,bk,MV ks ks',T.mk.injEq]
theorem MV:∀ a b:List T,eqL a b=true↔a=b
 | [],[]=>by simp [eqL]
 | [],_::_=>by simp [eqL]
 | _::_,[]=>by simp [eqL]
 | t::ts,u::us=>by
  simp only [eqL,bw,jJ t u,MV ts us,jp]
end
theorem U4:∀ {a b:List T},a.length≠b.length->eqL a b=false:=by
 intro a b h
 rw [<- U9,MV]
 rintro rfl
 exact h rfl
theorem VH {a b c d e:Value}:∀ (j:Nat) (v:Value),([a,b,c,d]:List Value)[j]?=some v->(#[a,b,c,d,e]:Array Value)[0+j]?=some v
 | 0,_,h|1,_,h|2,_,h|3,_,h=>h
 | j+4,_,h=>by simp at h
end
section
open Go Go.RowKit
section
variable {P:Program} {w:World} {K:Value->World->Prop} {ty:TypeId}
attribute [local irreducible] Run CondV aw aN
theorem lh {a:Bool} {v:Value} {A:Prop} (ht:a=true->A) (hf:a=false->K (.bool false) w):aw (.bool a) true A (Run P (sOp (.pick (.const (.bool a)) (.const v) (.const (.bool false))) ty) w K):=
 Sn ht fun h=>by
  have h':a=false:=by simpa using h
  refine xY ?_
  rw [h']
  exact hf h'
theorem iy {a:Bool} {v u:Value} (ha:a=true) (hk:K v w):Run P (sOp (.pick (.const (.bool a)) (.const v) (.const u)) ty) w K:=by
 refine xY ?_
 rw [ha]
 exact hk
theorem ri {v:Value} {A:Prop} (hk:K (.bool false) w):aw (.bool false) true A (Run P (sOp (.pick (.const (.bool false)) (.const v) (.const (.bool false))) ty) w K):=
 lh (fun h=>by cases h) fun _=>hk
theorem MU {a:Bool} {v:Value} {A:Prop} (ht:a=true->K (.bool true) w) (hf:a=false->A):aw (.bool a) false A (Run P (sOp (.pick (.const (.bool a)) (.const (.bool true)) (.const v)) ty) w K):=
 Sn hf fun h=>by
  have h':a=true:=by simpa using h
  refine xY ?_
  rw [h']
  exact ht h'
theorem CT {a:Bool} {v u:Value} (ha:a=false) (hk:K v w):Run P (sOp (.pick (.const (.bool a)) (.const u) (.const v)) ty) w K:=by
 refine xY ?_
 rw [ha]
 exact hk
theorem acN {v:Value} {A:Prop} (hk:K (.bool true) w):aw (.bool true) false A (Run P (sOp (.pick (.const (.bool true)) (.const (.bool true)) (.const v)) ty) w K):=
 MU (fun _=>hk) fun h=>by cases h
end

def wJ (cs:List Value) (s:ByteArray):Prop:=cs=[.string s]
def i5 (cs:List Value) (n:Int):Prop:=cs=[.int .i64 n]
section
variable {P:Program} {w w0:World} {X:List Nat} {L:List Item} {S:af} {K:Value->World->Prop}
attribute [local irreducible] Run CondV aw aN
theorem xK (h:Inv w0 X L S w) {s:Sem Next} {v:Nat->Value} {o:Obj} (hr:s.run P w=.ok (.value (v w.heap.size)) { w with heap:=w.heap.push o })
  (hk:∀ b w',Inv w0 X (L++[.blk b o]) S w'->K (v b) w'):Run P s w K:=Run.of hr (hk _ _ (h.alloc o))
theorem Inv.publishLast {b:Nat} {o:Obj} (h:Inv w0 X (L++[.blk b o]) S w):Inv w0 X L (jj S b o) w/\Sle S (jj S b o):=by
 have hi:(L++[Item.blk b o])[L.length]?=some (.blk b o):=by simp
 have:=h.publish hi
 rwa [show (L++[Item.blk b o]).eraseIdx L.length=L by simp [List.eraseIdx_append_of_length_le]] at this
theorem io {α:Type} {T U ty ty' E:TypeId} {R:List Value->α->Prop} {v u:Value} {xs:List α} (hI:Inv w0 X L S w) (h:RdSl S 1 R v xs) (hu:cL P T=some (E,1)) (hU:kC P U=true)
  {i:Nat} (hi:i<xs.length) (hR:∀ cs,R cs xs[i]->cs=[u]) {K:Value->Value->World->Prop} (hk:K (elP v (i * 1)) u w) :
  Run P (sOp (.indexAddr T (.const v) (.const (.int .i64 i))) ty) w fun p w'=>Run P (sOp (.load U (.const p)) ty') w' (K p):=by
 obtain ⟨b,o,cap,c,E',fz,rfl,hS,hr⟩:=h.at_ hi
 refine aD hu hi ?_
 refine cw hU ?_ hk
 rw [hI.cellS hS]
 exact aK (hR _ hr) 0 u rfl
end
theorem RdSl.ofCells {α:Type} {S:af} {R:List Value->α->Prop} {b n:Nat} {c:Array Value} {E:TypeId} {fz:Nat × Nat} {xs:List α} (hS:S b=some (.cells c E fz)) (hn:xs.length=n) (hm:n<=maxLen)
  (h:∀ i (h:i<xs.length),R (aO c i 1) xs[i]):RdSl S 1 R (.slice (some ⟨b,0,none⟩) n n) xs:=by
 subst hn
 exact ⟨_,_,rfl,aR _,hm,.inr ⟨b,0,c,E,fz,rfl,hS,fun i hi=>by rw [bR,Nat.mul_one]; exact h i hi⟩⟩
end
section
open Go

def signs:List ByteArray:=[⟨#[43]⟩,⟨#[45]⟩,⟨#[42]⟩,⟨#[47,47]⟩,⟨#[61]⟩,⟨#[92,61]⟩,⟨#[61,61]⟩,⟨#[60]⟩,⟨#[62]⟩,⟨#[61,60]⟩,⟨#[62,61]⟩,⟨#[61,58,61]⟩,⟨#[46]⟩,⟨#[91,93]⟩,⟨#[33]⟩]
def sG (b:UInt8):Bool:=decide (97<=b.toNat) && decide (b.toNat<=122)
def th (s:ByteArray):Bool:=s.data.toList.all sG
def mM (s:ByteArray):Bool:=th s && (decide (1<=s.size) && decide (s.size<=6))
def lN (s:ByteArray):Bool:=mM s || signs.any fun x=>decide (x=s)
def emptyB:ByteArray:=⟨#[]⟩
def dS (t:T):Bool:=
 if t.kind=1 then decide (0<=t.n) && (decide (t.n<=25) && (decide (t.name=emptyB) && decide (t.kids.length=0)))
 else if t.kind=2 then decide (-999<=t.n) && (decide (t.n<=999) && (decide (t.name=emptyB) && decide (t.kids.length=0)))
 else if t.kind=3 then decide (t.n=0) && (lN t.name && decide (t.kids.length<=4))
 else false
mutual
def d6:T->Int->Bool
 | .mk k n s ks,d=>if d<1 then false else dS (.mk k n s ks) && d4 ks (d - 1)
def d4:List T->Int->Bool
 | [],_=>true
 | t::ts,d=>d6 t d && d4 ts d
end
mutual
def eq:T->Int
 | .mk _ _ _ ks=>1+cY ks
def cY:List T->Int
 | []=>0
 | t::ts=>eq t+cY ts
end
mutual
def ly:T->Int->Int
 | .mk _ _ _ ks,most=>gN ks 1 most
def gN:List T->Int->Int->Int
 | [],n,_=>n
 | t::ts,n,most=>if n<=most then gN ts (n+ly t (most - n)) most else n
end
def cn (t:T):Bool:=d6 t 30 && decide (eq t<=120)

mutual
theorem zh:∀ t:T,1<=eq t
 | .mk _ _ _ ks=>by simp only [eq]; have:=eN ks; omega
theorem eN:∀ ts:List T,0<=cY ts
 | []=>by simp [cY]
 | t::ts=>by simp only [cY]; have:=zh t; have:=eN ts; omega
end
mutual
theorem BR:∀ (t:T) (most:Int),0<=most->(eq t<=most->ly t most=eq t)/\(most<eq t->most<ly t most/\ly t most<=eq t)
 | .mk _ _ _ ks,most,h=>by
  simp only [eq,ly]
  have:=KR ks 1 most h (by omega)
  exact this
theorem KR:∀ (ts:List T) (n most:Int),0<=most->1<=n->(n+cY ts<=most->gN ts n most=n+cY ts)/\(most<n+cY ts->most<gN ts n most/\gN ts n most<=n+cY ts)
 | [],n,most,h,h1=>by
  simp only [cY,gN]
  exact ⟨fun _=>by omega,fun _=>by omega⟩
 | t::ts,n,most,h,h1=>by
  simp only [cY,gN]
  have hp:=zh t
  have hl:=eN ts
  by_cases hn:n<=most
  ·rw [ai hn]
   have ht:=BR t (most - n) (by omega)
   by_cases hc:eq t<=most - n
   ·rw [ht.1 hc]
    have hr:=KR ts (n+eq t) most h (by omega)
    exact ⟨fun h2=>by rw [hr.1 (by omega)]; omega,fun h2=>by have:=hr.2 (by omega); omega⟩
   ·have h3:=ht.2 (by omega)
    have h4:gN ts (n+ly t (most - n)) most=n+ly t (most - n):=by
     cases ts with
     | nil=>rfl
     | cons u us=>rw [gN,ah (by omega)]
    rw [h4]
    exact ⟨fun h2=>by omega,fun h2=>by omega⟩
  ·rw [ah hn]
   exact ⟨fun h2=>by omega,fun h2=>by omega⟩
end
theorem VU (t:T):decide (ly t 120<=120)=decide (eq t<=120):=by
 have h:=BR t 120 (by omega)
 by_cases hc:eq t<=120
 ·rw [h.1 hc]
 ·have:=h.2 (by omega)
  rw [aW (by omega),aW hc]

mutual
def fW:T->Int->Int->Bool × Int
 | .mk k n s ks,deep,c=>
  if 120<c+1 ∨ 30<deep then (false,c+1)
  else if k=1 ∨ k=2 then (dS (.mk k n s ks),c+1)
  else if k=3 then (if dS (.mk k n s ks) then mS ks (deep+1) (c+1) else (false,c+1))
  else (false,c+1)
def mS:List T->Int->Int->Bool × Int
 | [],_,c=>(true,c)
 | t::ts,deep,c=>if (fW t deep c).1 then mS ts deep (fW t deep c).2 else (false,(fW t deep c).2)
end
theorem OL {k n:Int} {s:ByteArray} {ks:List T} (h:dS (.mk k n s ks)=true) (hk:k=1 ∨ k=2):ks=[]:=by
 unfold dS at h
 simp only [T.kind,T.n,T.name,T.kids] at h
 rcases hk with rfl|rfl <;> simp at h <;> exact h.2.2.2
theorem W1 {k n:Int} {s:ByteArray} {ks:List T} (h:dS (.mk k n s ks)=true):k=1 ∨ k=2 ∨ k=3:=by
 unfold dS at h
 simp only [T.kind,T.n,T.name,T.kids] at h
 by_cases h1:k=1
 ·exact .inl h1
 ·by_cases h2:k=2
  ·exact .inr (.inl h2)
  ·by_cases h3:k=3
   ·exact .inr (.inr h3)
   ·simp [h1,h2,h3] at h
mutual
theorem HC:∀ (t:T) (deep c:Int),(fW t deep c).1=(d6 t (31 - deep) && decide (c+eq t<=120))/\((fW t deep c).1=true->(fW t deep c).2=c+eq t)
 | .mk k n s ks,deep,c=>by
  have hl:=eN ks
  rw [show eq (T.mk k n s ks)=1+cY ks from rfl]
  simp only [fW,d6]
  by_cases h1:120<c+1 ∨ 30<deep
  ·rw [ai h1]
   refine ⟨?_,fun h=>by cases h⟩
   rcases h1 with h1|h1
   ·rw [aW (show ¬ (c+(1+cY ks)<=120) by omega),lP]
   ·rw [ai (show 31 - deep<1 by omega)]; rfl
  ·rw [ah h1,ah (show ¬ (31 - deep<1) by omega)]
   by_cases h2:k=1 ∨ k=2
   ·rw [ai h2]
    cases ho:dS (.mk k n s ks) with
    | false=>exact ⟨rfl,fun h=>by cases h⟩
    | true=>
     have:=OL ho h2
     subst this
     rw [show cY []=0 from rfl]
     simp only [d4,dM]
     exact ⟨by rw [aM (show c+(1+0)<=120 by omega)],fun _=>by omega⟩
   ·rw [ah h2]
    by_cases h3:k=3
    ·rw [ai h3]
     cases ho:dS (.mk k n s ks) with
     | false=>exact ⟨rfl,fun h=>by cases h⟩
     | true=>
      simp only [if_true,dM]
      have:=O9 ks (deep+1) (c+1)
      rw [show 31 - (deep+1)=31 - deep - 1 by omega] at this
      rw [show c+(1+cY ks)=c+1+cY ks by omega]
      refine ⟨?_,this.2⟩
      rw [this.1]
      cases ks with
      | nil=>rw [show cY []=0 from rfl,aM (show c+1+0<=120 by omega)]; rfl
      | cons t ts=>simp
    ·rw [ah h3]
     have ho:dS (.mk k n s ks)=false:=by
      rw [<- U9]
      intro h
      rcases W1 h with e|e|e
      ·exact h2 (.inl e)
      ·exact h2 (.inr e)
      ·exact h3 e
     rw [ho]
     exact ⟨rfl,fun h=>by cases h⟩
theorem O9:∀ (ts:List T) (deep c:Int),(mS ts deep c).1=(d4 ts (31 - deep) && (ts.isEmpty || decide (c+cY ts<=120)))/\((mS ts deep c).1=true->(mS ts deep c).2=c+cY ts)
 | [],deep,c=>by simp [mS,d4,cY]
 | t::ts,deep,c=>by
  have ht:=HC t deep c
  have hp:=eN ts
  rw [show cY (t::ts)=eq t+cY ts from rfl]
  simp only [mS,d4,List.isEmpty_cons,fL]
  cases h1:(fW t deep c).1 with
  | false=>
   rw [h1] at ht
   have h2:=ht.1
   refine ⟨?_,fun h=>by cases h⟩
   simp only [F0,if_false]
   cases hs:d6 t (31 - deep) with
   | false=>rfl
   | true=>
    rw [hs,dM] at h2
    have:¬ (c+eq t<=120):=of_decide_eq_false h2.symm
    rw [aW (show ¬ (c+(eq t+cY ts)<=120) by omega),lP]
  | true=>
   rw [h1] at ht
   have h2:=ht.1
   have h3:=ht.2 rfl
   simp only [if_true]
   rw [h3]
   have hs:d6 t (31 - deep)=true/\c+eq t<=120:=by
    have:=h2.symm
    simpa using this
   have hl:=O9 ts deep (c+eq t)
   rw [show c+(eq t+cY ts)=c+eq t+cY ts by omega]
   refine ⟨?_,hl.2⟩
   rw [hl.1,hs.1,dM]
   cases ts with
   | nil=>rw [show cY []=0 from rfl,aM (show c+eq t+0<=120 by omega)]; rfl
   | cons u us=>simp
end
theorem Te (t:T):(fW t 1 0).1=cn t:=by
 rw [(HC t 1 0).1,cn]
 simp
end
section
open Go Go.RowKit
attribute [local irreducible] Run CondV aw aN

theorem pA {α:Type} (p:α->Bool) (l:List α) (k:Nat) (h:k<l.length):(l.drop k).all p=(p l[k] && (l.drop (k+1)).all p):=by
 rw [cZ h,Pp]
theorem yt {α:Type} (p:α->Bool) (l:List α) (k:Nat) (h:k<l.length):(l.drop k).any p=(p l[k] || (l.drop (k+1)).any p):=by
 rw [cZ h,fE]
theorem qh (s:ByteArray):s.data.toList.length=s.size:=by rw [IV]; rfl
theorem Qv (s:ByteArray) (k:Nat) (h:k<s.size):s.data.toList[k]'(by rw [qh]; exact h)=s[k]:=rfl

theorem y0 (s:ByteArray) (hs:s.size<=maxLen) (S:af):Pure Tryz.prog Rm [.string s] S (.bool (mM s)):=by
 intro w hI
 simp only [maxLen] at hs
 refine De.2 ?_
 dsimp only[De,aL]
 refine ⟨fun i w'=>∃ k:Nat,k<=s.size/\i=.int .i64 k/\(s.data.toList.drop k).all sG=th s/\Inv w [] [] S w',fun i _=>s.size - (intOf i).toNat,⟨0,be _,rfl,rfl,hI⟩,?_⟩
 intro t3 _ _ _ _ _ _ _ _ _ _ _ _ _ _ _ _ _ w'
 rintro ⟨k,hk,rfl,hrel,hI⟩
 refine lj aU ?_
 refine bF ?_
 refine aI (fun hki=>?_) (fun hki=>?_)
 ·have hk':k<s.size:=by omega
  have hstep:=pA sG s.data.toList k (by rw [qh]; exact hk')
  rw [Qv s k hk'] at hstep
  refine ⟨fun t w'=>t=.bool (!sG s[k])/\Inv w [] [] S w',?_,?_⟩
  ·refine mp aU hk' ?_
   refine bF ?_
   refine MU (fun h=>⟨?_,hI⟩) (fun h=>?_)
   ·have h:=of_decide_eq_true h
    rw [sG,aW (show ¬ 97<=s[k].toNat by omega)]; rfl
   ·refine mp aU hk' ?_
    refine dC ?_
    refine CT h ⟨?_,hI⟩
    have h:=of_decide_eq_false h
    rw [sG,aM (show 97<=s[k].toNat by omega),dM]
    by_cases h2:s[k].toNat<=122
    ·rw [aM h2,aW (by omega)]; rfl
    ·rw [aW h2,aM (by omega)]; rfl
  intro t _ _ _ _ _ _ _ _ _ w'
  rintro ⟨rfl,hI⟩
  refine az (fun h=>done hI ?_) (fun h=>?_)
  ·simp at h
   rw [mM,<- hrel,hstep,h]; rfl
  ·simp at h
   refine bq (by omega) ?_
   refine ⟨⟨k+1,hk',rfl,by rw [<- hrel,hstep,h]; rfl,hI⟩,by simp [intOf]; omega⟩
 ·have:k=s.size:=by omega
  subst this
  have hl:th s=true:=by rw [<- hrel,<- qh,dL]; rfl
  refine lj aU ?_
  refine mY ?_
  refine lh (fun h=>?_) (fun h=>done hI ?_)
  ·refine lj aU ?_
   refine fU ?_
   refine iy h (done hI ?_)
   have h:=of_decide_eq_true h
   rw [mM,hl,aM (show 1<=s.size by omega)]
   by_cases h2:s.size<=6
   ·rw [aM h2,aM (by omega)]; rfl
   ·rw [aW h2,aW (by omega)]; rfl
  ·have h:=of_decide_eq_false h
   rw [mM,hl,aW (show ¬ 1<=s.size by omega)]; rfl

def B9:Array Value:=(signs.map Value.string).toArray
theorem PB {S:af} {b:Nat} {E:TypeId} (hS:S b=some (.cells B9 E)):RdSl S 1 wJ (.slice (some ⟨b,0,none⟩) 15 15) signs:=by
 refine RdSl.ofCells hS rfl (by decide) ?_
 intro i hi
 have hi':i<15:=hi
 match i,hi' with
 | 0,_|1,_|2,_|3,_|4,_|5,_|6,_|7,_|8,_|9,_|10,_|11,_|12,_|13,_|14,_=>rfl
abbrev KK (S:af):Value->List Item->af->Prop:=fun v I' S'=>I'=[]/\Sle S S'/\RdSl S' 1 wJ v signs
theorem Qg {S:af} {b n:Nat} {o:Obj} (h:n<=b) (hs:Sle S (jj S b o)):Ext n [] S (jj S b o):=
 ⟨hs,fun c o' hc=>by
  simp only [jj] at hc
  split at hc
  ·rename_i e; subst e; exact .inr (.inr h)
  ·exact .inl hc⟩
theorem wM (S:af):Tri Tryz.prog QK [] [] S (KK S):=by
 intro w hI
 refine Ac.2 ?_
 dsimp only[Ac,oF]
 refine xK (v:=fun b=>.slice (some ⟨b,0,none⟩) 15 15) (o:=.cells B9 gJ) hI (by kernel_rfl) fun b w' hI=>?_
 have hnew:w.heap.size<=b:=by
  rcases hI.new b (by simp [bI,Item.foot]) with h|h
  ·simp [bI] at h
  ·exact h
 obtain ⟨h1,h2⟩:=Inv.publishLast (L:=[]) hI
 exact ⟨_,_,_,rfl,h1,Qg hnew h2,rfl,h2,PB (by simp [jj]; rfl)⟩
theorem Qa (s:ByteArray) {xs:List ByteArray} {S:af} {v:Value} (h:RdSl S 1 wJ v xs):Pure Tryz.prog V9 [v,.string s] S (.bool (xs.any fun x=>decide (x=s))):=by
 intro w hI
 have hlen:=h.le
 simp only [maxLen] at hlen
 refine HY.2 ?_
 dsimp only[HY,aZ]
 refine ⟨fun i w'=>∃ k:Nat,k<=xs.length/\i=.int .i64 k/\(xs.drop k).any (fun x=>decide (x=s))=xs.any (fun x=>decide (x=s))/\Inv w [] [] S w',fun i _=>xs.length - (intOf i).toNat,⟨0,be _,rfl,rfl,hI⟩,?_⟩
 intro t3 _ _ _ _ _ _ _ _ _ _ _ _ _ w'
 rintro ⟨k,hk,rfl,hrel,hI⟩
 refine aC h cH ?_
 refine bF ?_
 refine aI (fun hki=>?_) (fun hki=>?_)
 ·have hk':k<xs.length:=by omega
  have hstep:=yt (fun x=>decide (x=s)) xs k hk'
  refine io hI h cH aQ hk' (fun cs hcs=>hcs) ?_
  refine bO ?_
  refine az (fun he=>done hI ?_) (fun he=>?_)
  ·rw [<- hrel,hstep,he]; rfl
  ·refine bq (by omega) ?_
   exact ⟨⟨k+1,hk',rfl,by rw [<- hrel,hstep,he]; rfl,hI⟩,by simp [intOf]; omega⟩
 ·have:k=xs.length:=by omega
  subst this
  exact done hI (by rw [<- hrel,dL]; rfl)
theorem jz {w w':World} {L:List Item} {S S':af} {r r':Value} (h:Inv w [] L S' w') (hs:Sle S S') (e:r'=r):Ending.returned r'=.returned r/\Inv w [] [] S w':=⟨by rw [e],h.nil.less hs⟩
theorem Cg (s:ByteArray) (hs:s.size<=maxLen) (S:af):Pure Tryz.prog Jy [.string s] S (.bool (lN s)):=by
 intro w hI
 refine tB.2 ?_
 dsimp only[tB,aL]
 refine Run.callPure DD Dj hI (y0 s hs S) fun w' hI=>?_
 refine MU (fun h=>done hI ?_) (fun h=>?_)
 ·rw [lN,h]; rfl
 ·refine Run.call0 Aj yv hI (wM S) fun v' I' S' w'=>?_
  rintro ⟨rfl,_,hr⟩ hle hI
  refine Run.callPure Td SF hI (Qa s hr) fun w' hI=>?_
  refine CT h (jz hI hle ?_)
  rw [lN,h]; rfl

theorem O4 {t:T} {S:af} {cs:List Value} (h:RdT S cs t):Pure Tryz.prog VN [.agg cs.toArray] S (.bool (dS t)):=by
 intro w hI
 obtain ⟨kv,rfl,_,_,hs,hks⟩:=RdT.iff.1 h
 obtain ⟨k,n,s,ks⟩:=t
 simp only [T.name,T.kids,T.kind,T.n] at hs hks ⊢
 refine GW.2 ?_
 dsimp only[GW,aL]
 refine bt hI fun b1 w' hI=>?_
 refine ag hI 0 rfl aP aH rfl ?_
 refine bo ?_
 refine aI (fun hk=>?_) (fun hk=>?_)
 ·have ho:dS (.mk k n s ks)=(decide (0<=n) && (decide (n<=25) && (decide (s=emptyB) && decide (ks.length=0)))):=by
   rw [dS]; exact ai hk
  refine ag hI 0 rfl bh aH rfl ?_
  refine mY ?_
  refine lh (fun h1=>?_) (fun h1=>?_)
  ·refine ag hI 0 rfl bh aH rfl ?_
   refine fU ?_
   refine iy h1 ?_
   refine lh (fun h2=>?_) (fun h2=>?_)
   ·refine ag hI 0 rfl bb aQ rfl ?_
    refine bO ?_
    refine iy h2 ?_
    refine lh (fun h3=>?_) (fun h3=>done hI ?_)
    ·refine ag hI 0 rfl al aj rfl ?_
     refine aC hks ae ?_
     refine bo ?_
     refine iy h3 (done hI ?_)
     rw [ho,h1,h2,show decide (s=emptyB)=true from h3]
     simp
    ·rw [ho,h1,h2,show decide (s=emptyB)=false from h3]; rfl
   ·refine ri (done hI ?_)
    rw [ho,h1,h2]; rfl
  ·refine ri (ri (done hI ?_))
   rw [ho,h1]; rfl
 refine bo ?_
 refine aI (fun hk2=>?_) (fun hk2=>?_)
 ·have ho:dS (.mk k n s ks)=(decide (-999<=n) && (decide (n<=999) && (decide (s=emptyB) && decide (ks.length=0)))):=by
   rw [dS]; exact (ah hk).trans (ai hk2)
  refine ag hI 0 rfl bh aH rfl ?_
  refine mY ?_
  refine lh (fun h1=>?_) (fun h1=>?_)
  ·refine ag hI 0 rfl bh aH rfl ?_
   refine fU ?_
   refine iy h1 ?_
   refine lh (fun h2=>?_) (fun h2=>?_)
   ·refine ag hI 0 rfl bb aQ rfl ?_
    refine bO ?_
    refine iy h2 ?_
    refine lh (fun h3=>?_) (fun h3=>done hI ?_)
    ·refine ag hI 0 rfl al aj rfl ?_
     refine aC hks ae ?_
     refine bo ?_
     refine iy h3 (done hI ?_)
     rw [ho,h1,h2,show decide (s=emptyB)=true from h3]
     simp
    ·rw [ho,h1,h2,show decide (s=emptyB)=false from h3]; rfl
   ·refine ri (done hI ?_)
    rw [ho,h1,h2]; rfl
  ·refine ri (ri (done hI ?_))
   rw [ho,h1]; rfl
 refine bo ?_
 refine aI (fun hk3=>?_) (fun hk3=>done hI ?_)
 ·have ho:dS (.mk k n s ks)=(decide (n=0) && (lN s && decide (ks.length<=4))):=by
   rw [dS]; exact (ah hk).trans ((ah hk2).trans (ai hk3))
  refine ag hI 0 rfl bh aH rfl ?_
  refine bo ?_
  refine lh (fun h1=>?_) (fun h1=>?_)
  ·refine ag hI 0 rfl bb aQ rfl ?_
   refine Run.callPure FH H2 hI (Cg s hs S) fun w' hI=>?_
   refine iy h1 ?_
   refine lh (fun h2=>?_) (fun h2=>done hI ?_)
   ·refine ag hI 0 rfl al aj rfl ?_
    refine aC hks ae ?_
    refine fU ?_
    refine iy h2 (done hI ?_)
    rw [ho,h1,h2]
    simp
    omega
   ·rw [ho,h1,h2]; rfl
  ·refine ri (done hI ?_)
   rw [ho,h1]; rfl
 ·rw [dS]
  exact congrArg Value.bool ((ah hk).trans ((ah hk2).trans (ah hk3))).symm

theorem JF:∀ (t:T) (S:af) (cs:List Value) (d:Int),RdT S cs t->-1<=d->d<=1000->Pure Tryz.prog N3 [.agg cs.toArray,.int .i64 d] S (.bool (d6 t d)):=by
 refine T.ind fun k n s ks ih S cs d h h0 h1=>?_
 intro w hI
 have hcs:=h
 obtain ⟨kv,rfl,_,_,hs,hks⟩:=RdT.iff.1 h
 simp only [T.name,T.kids,T.kind,T.n] at hs hks ⊢
 have hlen:=hks.le
 simp only [maxLen] at hlen
 refine yr.2 ?_
 dsimp only[yr,aZ]
 refine bt hI fun b1 w' hI=>?_
 refine ⟨fun t w'=>t=.bool (decide (d<1) || !dS (.mk k n s ks))/\Inv w [] [.blk b1 (.cells #[.int .i64 k,.int .i64 n,.string s,kv] ac)] S w',?_,?_⟩
 ·refine bF ?_
  refine MU (fun h=>⟨by rw [h]; rfl,hI⟩) (fun h=>?_)
  refine ar hI 0 ad rfl rfl ?_
  refine Run.callPure RI Rr hI (O4 hcs) fun w' hI=>?_
  refine bX ?_
  exact CT h ⟨by rw [h]; rfl,hI⟩
 intro t _ _ _ _ _ _ w'
 rintro ⟨rfl,hI⟩
 refine az (fun hb=>done hI ?_) (fun hb=>?_)
 ·rw [d6]
  by_cases hd:d<1
  ·rw [ai hd]
  ·rw [ah hd]
   simp [hd] at hb
   rw [hb]; rfl
 have hd:¬ d<1:=fun h=>by simp [h] at hb
 have ho:dS (.mk k n s ks)=true:=by simp [hd] at hb; exact hb
 refine ⟨fun i w'=>∃ j:Nat,j<=ks.length/\i=.int .i64 j/\d4 (ks.drop j) (d - 1)=d4 ks (d - 1)/\Inv w [] [.blk b1 (.cells #[.int .i64 k,.int .i64 n,.string s,kv] ac)] S w',
  fun i _=>ks.length - (intOf i).toNat,⟨0,be _,rfl,rfl,hI⟩,?_⟩
 intro t5 _ _ _ _ _ _ _ _ _ _ _ _ _ _ _ _ _ w'
 rintro ⟨j,hj,rfl,hrel,hI⟩
 refine ag hI 0 rfl al aj rfl ?_
 refine aC hks ae ?_
 refine bF ?_
 refine aI (fun hji=>?_) (fun hji=>?_)
 ·have hj':j<ks.length:=by omega
  have hstep:d4 (ks.drop j) (d - 1)=(d6 ks[j] (d - 1) && d4 (ks.drop (j+1)) (d - 1)):=by
   rw [cZ hj',d4]
  refine ag hI 0 rfl al aj rfl ?_
  refine cE hI hks ae ad hj' (fun _ _=>RdT.length) fun cs' hcs'=>?_
  refine mz (by omega) ?_
  refine Run.callPure AA y5 hI (ih _ (bA hj') S cs' (d - 1) hcs' (by omega) (by omega)) fun w' hI=>?_
  refine bX ?_
  refine az (fun hne=>done hI ?_) (fun he=>?_)
  ·simp at hne
   rw [d6,ah hd,ho,<- hrel,hstep,hne]; rfl
  ·simp at he
   refine bq (by omega) ?_
   exact ⟨⟨j+1,hj',rfl,by rw [<- hrel,hstep,he]; rfl,hI⟩,by simp [intOf]; omega⟩
 ·have:j=ks.length:=by omega
  subst this
  refine done hI ?_
  rw [d6,ah hd,ho,<- hrel,dL,d4]; rfl

theorem mE:∀ (ts:List T) (j:Nat) (h:j<ts.length),cY (ts.drop j)=eq ts[j]+cY (ts.drop (j+1)):=by
 intro ts j h
 rw [cZ h,cY]
theorem Jd:∀ (t:T) (S:af) (cs:List Value) (most:Int),RdT S cs t->0<=most->most<=1000->eq t<=4611686018427387904->Pure Tryz.prog Pi [.agg cs.toArray,.int .i64 most] S (.int .i64 (ly t most)):=by
 refine T.ind fun k n s ks ih S cs most h h0 h1 hc=>?_
 intro w hI
 obtain ⟨kv,rfl,_,_,hs,hks⟩:=RdT.iff.1 h
 simp only [T.name,T.kids,T.kind,T.n] at hs hks ⊢
 have hlen:=hks.le
 simp only [maxLen] at hlen
 rw [show eq (T.mk k n s ks)=1+cY ks from rfl] at hc
 refine yi.2 ?_
 dsimp only[yi,aZ]
 refine bt hI fun b1 w' hI=>?_
 refine ⟨fun i m w'=>∃ (j:Nat) (c:Int),j<=ks.length/\i=.int .i64 j/\m=.int .i64 c/\1<=c/\c+cY (ks.drop j)<=1+cY ks/\gN (ks.drop j) c most=gN ks 1 most/\Inv w [] [.blk b1 (.cells #[.int .i64 k,.int .i64 n,.string s,kv] ac)] S w',
  fun i _ _=>ks.length - (intOf i).toNat,⟨0,1,be _,rfl,rfl,by omega,by rw [Lo]; omega,rfl,hI⟩,?_⟩
 intro t6 _ _ t5 _ _ _ _ _ _ _ _ _ _ _ _ _ _ _ _ _ _ _ _ _ w'
 rintro ⟨j,c,hj,rfl,rfl,hc1,hc2,hrel,hI⟩
 refine ⟨fun t w'=>t=.bool (decide (j<ks.length) && decide (c<=most))/\Inv w [] [.blk b1 (.cells #[.int .i64 k,.int .i64 n,.string s,kv] ac)] S w',?_,?_⟩
 ·refine ag hI 0 rfl al aj rfl ?_
  refine aC hks ae ?_
  refine bF ?_
  refine lh (fun h=>?_) (fun h=>⟨?_,hI⟩)
  ·refine fU ?_
   refine iy h ⟨?_,hI⟩
   rw [aM (show j<ks.length from by have:=of_decide_eq_true h; omega)]; rfl
  ·rw [aW (show ¬ j<ks.length from by have:=of_decide_eq_false h; omega)]; rfl
 intro t _ _ _ _ _ _ _ _ _ w'
 rintro ⟨rfl,hI⟩
 refine az (fun hb=>?_) (fun hb=>done hI ?_)
 ·simp at hb
  obtain ⟨hj',hcm⟩:=hb
  have hsp:=mE ks j hj'
  have hstep:gN (ks.drop j) c most=gN (ks.drop (j+1)) (c+ly ks[j] (most - c)) most:=by
   rw [cZ hj',gN,ai hcm]
  have hct:=BR ks[j] (most - c) (by omega)
  have hp:=zh ks[j]
  have hlp:=eN (ks.drop (j+1))
  have hcle:1<=ly ks[j] (most - c)/\ly ks[j] (most - c)<=eq ks[j]:=by
   by_cases hq:eq ks[j]<=most - c
   ·rw [hct.1 hq]; omega
   ·have:=hct.2 (by omega); omega
  refine ag hI 0 rfl al aj rfl ?_
  refine cE hI hks ae ad hj' (fun _ _=>RdT.length) fun cs' hcs'=>?_
  refine mz (by omega) ?_
  refine Run.callPure Av Am hI (ih _ (bA hj') S cs' (most - c) hcs' (by omega) (by omega) (by omega)) fun w' hI=>?_
  refine bq (by omega) ?_
  refine bq (by omega) ?_
  exact ⟨⟨j+1,_,hj',rfl,rfl,by omega,by omega,by rw [<- hrel,hstep],hI⟩,by simp [intOf]; omega⟩
 ·show Value.int .i64 c=Value.int .i64 (gN ks 1 most)
  rw [<- hrel]
  by_cases hj':j<ks.length
  ·simp [hj'] at hb
   rw [cZ hj',gN,ah (by omega)]
  ·rw [jQ (by omega),gN]

mutual
theorem Mr:∀ t:T,eq t<=1+(wT t:Int)
 | .mk k n s ks=>by
  rw [show eq (T.mk k n s ks)=1+cY ks from rfl,wT]
  have:=Bq ks
  omega
theorem Bq:∀ ts:List T,cY ts<=ts.length+(wL ts:Int)
 | []=>by simp [cY,wL]
 | t::ts=>by
  rw [show cY (t::ts)=eq t+cY ts from rfl,wL,bu]
  have:=Mr t; have:=Bq ts
  omega
end

theorem ki {t:T} {S:af} {cs:List Value} (h:RdT S cs t) (hc:eq t<=4611686018427387904):Pure Tryz.prog Jt [.agg cs.toArray] S (.bool (cn t)):=by
 intro w hI
 have hl:=h.length
 refine sU.2 ?_
 dsimp only[sU,aL]
 refine bt hI fun b1 w' hI=>?_
 refine ar hI 0 ad rfl (by simpa [Value.cells] using hl) ?_
 refine Run.callPure AA y5 hI (JF t S cs 30 h (by omega) (by omega)) fun w' hI=>?_
 refine lh (fun h1=>?_) (fun h1=>done hI ?_)
 ·refine ar hI 0 ad rfl (by simpa [Value.cells] using hl) ?_
  refine Run.callPure Av Am hI (Jd t S cs 120 h (by omega) (by omega) hc) fun w' hI=>?_
  refine fU ?_
  refine iy h1 (done hI ?_)
  rw [cn,h1,VU]; rfl
 ·rw [cn,h1]; rfl
end
section
open Go Go.RowKit
attribute [local irreducible] Run CondV aw aN

def ce {α σ:Type} (step:σ->α->Bool × σ):σ->List α->Nat->Int × σ
 | st,[],_=>(-1,st)
 | st,x::xs,k=>if (step st x).1 then ((k:Int),(step st x).2) else ce step (step st x).2 xs (k+1)
def sB {α σ:Type} (step:σ->α->Bool × σ):σ->List α->Bool × σ
 | st,[]=>(false,st)
 | st,x::xs=>if (step st x).1 then (true,(step st x).2) else sB step (step st x).2 xs
theorem kA {α σ:Type} (step:σ->α->Bool × σ):∀ (xs:List α) (st:σ) (k:Nat),decide (0<=(ce step st xs k).1)=(sB step st xs).1/\(ce step st xs k).2=(sB step st xs).2
 | [],st,k=>by simp [ce,sB]
 | x::xs,st,k=>by
  by_cases h:(step st x).1=true
  ·simp [ce,sB,h]
  ·simpa [ce,sB,h] using kA step xs (step st x).2 (k+1)
theorem gu {α:Type} (p:α->Bool):∀ xs:List α,sB (σ:=Unit) (fun _ x=>(p x,())) () xs=(xs.any p,())
 | []=>rfl
 | x::xs=>by
  simp only [sB,fE]
  cases h:p x with
  | true=>rfl
  | false=>rw [gu p xs]; rfl
abbrev fv (f:FuncId) (cap:List Value):Value:=.func (.func f) #[] cap.toArray
section
variable {P:Program} {w w0:World} {X:List Nat} {A I:List Item} {S:af} {K:Value->World->Prop}
theorem Kt {P:Program} {f:FuncId} {fn:Func} {cap args:List Value} {w:World} (hf:P.funcs[f]?=some fn) (hn:(fn.name == "runtime.NumGoroutine" || fn.body.isNone)=false) :
  (eO (fv f cap) args).run P w=.ok (.enter f (args++cap).toArray) w:=by
 simp only [Qw] at hn
 have h1:¬ fn.name = "runtime.NumGoroutine" := by simpa using hn.1
 have h2:¬ fn.body=none:=fun e=>by rw [e] at hn; simp at hn
 simp [eO,Deferred.ofValue,invoke,callFunc,hf,h1,h2]
theorem Run.callV {f:FuncId} {fn:Func} {cap args:List Value} {Post:Value->List Item->af->Prop}
  (hf:P.funcs[f]?=some fn) (hn:(fn.name == "runtime.NumGoroutine" || fn.body.isNone)=false) (h:Inv w0 X (A++I) S w) (hc:Tri P f (args++cap) I S Post)
  (hk:∀ v I' S' w',Post v I' S'->Sle S S'->Inv w0 X (A++I') S' w'->K v w'):Run P (eO (fv f cap) args) w K:=by
 unfold Run
 rw [Kt hf hn]
 refine (hc w (h.sub (dX A I)).begin).mono ?_
 rintro e w' ⟨v,I',S',rfl,hI,hE,hP⟩
 exact hk v I' S' w' hP hE.1 (Inv.step h hI hE.2)
end
structure Cb (P:Program) (f:FuncId) (fn:Func) {α σ:Type} (cap:List Value) (S:af) (It:σ->List Item) (ok:σ->Prop) (step:σ->α->Bool × σ) (R:Value->α->Prop) (xs:List α):Prop where
 hf:P.funcs[f]?=some fn
 hn:(fn.name == "runtime.NumGoroutine" || fn.body.isNone)=false
 keep:∀ st x,x∈xs->ok st->(step st x).1=false->ok (step st x).2
 call:∀ st x v,x∈xs->ok st->R v x->Tri P f (v::cap) (It st) S fun r I' S'=>r=.bool (step st x).1/\I'=It (step st x).2/\S'=S
theorem Cb.pure {P:Program} {f:FuncId} {fn:Func} {α:Type} {cap:List Value} {S:af} {p:α->Bool} {R:Value->α->Prop} {xs:List α} (L:List Item) (hf:P.funcs[f]?=some fn) (hn:(fn.name == "runtime.NumGoroutine" || fn.body.isNone)=false)
  (h:∀ x v,x∈xs->R v x->Tri P f (v::cap) L S fun r I' S'=>r=.bool (p x)/\I'=L/\S'=S):Cb P f fn cap S (fun _:Unit=>L) (fun _=>True) (fun _ x=>(p x,())) R xs:=
 ⟨hf,hn,fun _ _ _ _ _=>trivial,fun _ x v hx _ hR=>h x v hx hR⟩

theorem jA {σ:Type} {f:FuncId} {fn:Func} {cap:List Value} {S:af} {It:σ->List Item} {ok:σ->Prop} {step:σ->T->Bool × σ} {xs:List T} {v:Value}
  (hcb:Cb Tryz.prog f fn cap S It ok step (fun v x=>∃ cs,v=.agg cs.toArray/\RdT S cs x) xs) (h:RdSl S 4 (RdT S) v xs) {st:σ} (hok:ok st) :
  Tri Tryz.prog mx [v,fv f cap] (It st) S fun r I' S'=>r=.int .i64 (ce step st xs 0).1/\I'=It (ce step st xs 0).2/\S'=S:=by
 intro w hI
 have hlen:=h.le
 simp only [maxLen] at hlen
 refine fI.2 ?_
 dsimp only[fI,aZ]
 refine aC h ae ?_
 refine ⟨fun i w'=>∃ (k:Nat) (st':σ),k<=xs.length/\i=.int .i64 k/\ok st'/\ce step st' (xs.drop k) k=ce step st xs 0/\Inv w (bI (It st)) (It st') S w',fun i _=>xs.length - (intOf i).toNat,
  ⟨0,st,be _,rfl,hok,rfl,hI⟩,?_⟩
 intro t8 _ _ _ _ _ _ _ _ _ _ _ _ w'
 rintro ⟨k,st',hk,rfl,hok',hrel,hI⟩
 refine bF ?_
 refine aI (fun hki=>?_) (fun hki=>?_)
 ·have hk':k<xs.length:=by omega
  have hm:=bA hk'
  have hstep:ce step st' (xs.drop k) k=if (step st' xs[k]).1 then ((k:Int),(step st' xs[k]).2) else ce step (step st' xs[k]).2 (xs.drop (k+1)) (k+1):=by
   rw [cZ hk',ce]
  refine cE hI h ae ad hk' (fun _ _=>RdT.length) fun cs hcs=>?_
  refine Run.callV (A:=[]) (args:=[.agg cs.toArray]) hcb.hf hcb.hn (by simpa using hI) (hcb.call st' _ _ hm hok' ⟨cs,rfl,hcs⟩) fun v' I' S' w'=>?_
  rintro ⟨rfl,rfl,rfl⟩ _ hI
  refine az (fun hb=>?_) (fun hb=>?_)
  ·rw [ai hb] at hstep
   refine ⟨_,_,_,rfl,by simpa using hI,Ext.refl _ _ _,?_,?_,rfl⟩
   ·rw [<- hrel,hstep]
   ·rw [<- hrel,hstep]
  ·refine bq (by omega) ?_
   rw [hb] at hstep
   refine ⟨⟨k+1,_,hk',rfl,hcb.keep st' _ hm hok' hb,?_,by simpa using hI⟩,by simp [intOf]; omega⟩
   rw [<- hrel,hstep]
   rfl
 ·have:k=xs.length:=by omega
  subst this
  rw [dL,ce] at hrel
  exact ⟨_,_,_,rfl,hI,Ext.refl _ _ _,by rw [<- hrel],by rw [<- hrel],rfl⟩
theorem ez {σ:Type} {f:FuncId} {fn:Func} {cap:List Value} {S:af} {It:σ->List Item} {ok:σ->Prop} {step:σ->T->Bool × σ} {xs:List T} {v:Value}
  (hcb:Cb Tryz.prog f fn cap S It ok step (fun v x=>∃ cs,v=.agg cs.toArray/\RdT S cs x) xs) (h:RdSl S 4 (RdT S) v xs) {st:σ} (hok:ok st) :
  Tri Tryz.prog jV [v,fv f cap] (It st) S fun r I' S'=>r=.bool (sB step st xs).1/\I'=It (sB step st xs).2/\S'=S:=by
 intro w hI
 refine eR.2 ?_
 dsimp only[eR,aZ]
 refine Run.call (A:=[]) fH fJ (by simpa using hI) (jA hcb h hok) fun v' I' S' w'=>?_
 rintro ⟨rfl,rfl,rfl⟩ _ hI
 refine mY ?_
 have he:=kA step xs st 0
 exact ⟨_,_,_,rfl,by simpa using hI,Ext.refl _ _ _,by rw [he.1],by rw [he.2],rfl⟩
theorem vF {σ:Type} {f:FuncId} {fn:Func} {cap:List Value} {S:af} {It:σ->List Item} {ok:σ->Prop} {step:σ->C->Bool × σ} {xs:List C} {v:Value}
  (hcb:Cb Tryz.prog f fn cap S It ok step (fun v x=>∃ cs,v=.agg cs.toArray/\RdC S cs x) xs) (h:RdSl S 5 (RdC S) v xs) {st:σ} (hok:ok st) :
  Tri Tryz.prog tI [v,fv f cap] (It st) S fun r I' S'=>r=.int .i64 (ce step st xs 0).1/\I'=It (ce step st xs 0).2/\S'=S:=by
 intro w hI
 have hlen:=h.le
 simp only [maxLen] at hlen
 refine jU.2 ?_
 dsimp only[jU,aZ]
 refine aC h cD ?_
 refine ⟨fun i w'=>∃ (k:Nat) (st':σ),k<=xs.length/\i=.int .i64 k/\ok st'/\ce step st' (xs.drop k) k=ce step st xs 0/\Inv w (bI (It st)) (It st') S w',fun i _=>xs.length - (intOf i).toNat,
  ⟨0,st,be _,rfl,hok,rfl,hI⟩,?_⟩
 intro t8 _ _ _ _ _ _ _ _ _ _ _ _ w'
 rintro ⟨k,st',hk,rfl,hok',hrel,hI⟩
 refine bF ?_
 refine aI (fun hki=>?_) (fun hki=>?_)
 ·have hk':k<xs.length:=by omega
  have hm:=bA hk'
  have hstep:ce step st' (xs.drop k) k=if (step st' xs[k]).1 then ((k:Int),(step st' xs[k]).2) else ce step (step st' xs[k]).2 (xs.drop (k+1)) (k+1):=by
   rw [cZ hk',ce]
  refine cE hI h cD bz hk' (fun _ _=>RdC.length) fun cs hcs=>?_
  refine Run.callV (A:=[]) (args:=[.agg cs.toArray]) hcb.hf hcb.hn (by simpa using hI) (hcb.call st' _ _ hm hok' ⟨cs,rfl,hcs⟩) fun v' I' S' w'=>?_
  rintro ⟨rfl,rfl,rfl⟩ _ hI
  refine az (fun hb=>?_) (fun hb=>?_)
  ·rw [ai hb] at hstep
   refine ⟨_,_,_,rfl,by simpa using hI,Ext.refl _ _ _,?_,?_,rfl⟩
   ·rw [<- hrel,hstep]
   ·rw [<- hrel,hstep]
  ·refine bq (by omega) ?_
   rw [hb] at hstep
   refine ⟨⟨k+1,_,hk',rfl,hcb.keep st' _ hm hok' hb,?_,by simpa using hI⟩,by simp [intOf]; omega⟩
   rw [<- hrel,hstep]
   rfl
 ·have:k=xs.length:=by omega
  subst this
  rw [dL,ce] at hrel
  exact ⟨_,_,_,rfl,hI,Ext.refl _ _ _,by rw [<- hrel],by rw [<- hrel],rfl⟩
theorem jt {σ:Type} {f:FuncId} {fn:Func} {cap:List Value} {S:af} {It:σ->List Item} {ok:σ->Prop} {step:σ->C->Bool × σ} {xs:List C} {v:Value}
  (hcb:Cb Tryz.prog f fn cap S It ok step (fun v x=>∃ cs,v=.agg cs.toArray/\RdC S cs x) xs) (h:RdSl S 5 (RdC S) v xs) {st:σ} (hok:ok st) :
  Tri Tryz.prog ql [v,fv f cap] (It st) S fun r I' S'=>r=.bool (sB step st xs).1/\I'=It (sB step st xs).2/\S'=S:=by
 intro w hI
 refine iJ.2 ?_
 dsimp only[iJ,aZ]
 refine Run.call (A:=[]) si sj (by simpa using hI) (vF hcb h hok) fun v' I' S' w'=>?_
 rintro ⟨rfl,rfl,rfl⟩ _ hI
 refine mY ?_
 have he:=kA step xs st 0
 exact ⟨_,_,_,rfl,by simpa using hI,Ext.refl _ _ _,by rw [he.1],by rw [he.2],rfl⟩
end
end Go.Proofs.YtgllldjiaglkcaaGreatDoor
