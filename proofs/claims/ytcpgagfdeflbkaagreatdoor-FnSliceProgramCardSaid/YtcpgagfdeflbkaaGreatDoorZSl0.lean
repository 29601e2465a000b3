/- Data that a function has made for itself: trees of blocks that nobody else knows. -/
import Derived.Test.YtcpgagfdeflbkaaGreatDoorZSlS
import Derived.Test.YtcpgagfdeflbkaaGreatDoorZSlF
import Derived.Test.YtcpgagfdeflbkaaGreatDoorZSlgz
namespace Go.Proofs.YtcpgagfdeflbkaaGreatDoor
section
open Go Go.RowKit
attribute [local irreducible] Run CondV aq aK

abbrev aU:=List (Nat × Obj)
def bj (L:aU):List Item:=L.map fun p=>.blk p.1 p.2
theorem dv (L M:aU):bj (L++M)=bj L++bj M:=by simp [bj]
def Ins (S:ad) (L:aU):Prop:=∀ p∈L,S p.1=some p.2
theorem Ins.mono {S S':ad} {L:aU} (h:Ins S L) (hs:Sle S S'):Ins S' L:=fun p hp=>hs _ _ (h p hp)
theorem Ins.left {S:ad} {L M:aU} (h:Ins S (L++M)):Ins S L:=fun p hp=>h p (eM _ hp)
theorem Ins.right {S:ad} {L M:aU} (h:Ins S (L++M)):Ins S M:=fun p hp=>h p (kw _ hp)
theorem gw {L:aU} {b:Nat}:b∈bu (bj L)↔∃ p∈L,p.1=b:=by
 simp only [bu,bj,List.mem_flatMap,iX]
 constructor
 ·rintro ⟨it,⟨p,hp,rfl⟩,hb⟩
  simp only [Item.foot,bY] at hb
  exact ⟨p,hp,hb.symm⟩
 ·rintro ⟨p,hp,rfl⟩
  exact ⟨_,⟨p,hp,rfl⟩,by simp [Item.foot]⟩

theorem Inv.publishAll {w0 w:World} {X:List Nat} {A:List Item}:∀ (L:aU) {S:ad},Inv w0 X (A++bj L) S w->
  ∃ S',Inv w0 X A S' w/\Sle S S'/\Ins S' L/\∀ b o,S' b=some o->S b=some o ∨ b∈bu (bj L)
 | [],S,h=>⟨S,by simpa [bj] using h,Sle.refl S,by intro p hp; simp at hp,fun b o hb=>.inl hb⟩
 | p::L,S,h=>by
  have hi:(A++bj (p::L))[A.length]?=some (.blk p.1 p.2):=by simp [bj]
  obtain ⟨h1,h2⟩:=h.publish hi
  have he:(A++bj (p::L)).eraseIdx A.length=A++bj L:=by simp [bj,List.eraseIdx_append_of_length_le]
  rw [he] at h1
  obtain ⟨S',h3,h4,h5,h6⟩:=publishAll L h1
  refine ⟨S',h3,h2.trans h4,fun q hq=>?_,fun b o hb=>?_⟩
  ·rcases cQ.1 hq with rfl|hq
   ·exact h4 _ _ (by simp [mE])
   ·exact h5 q hq
  ·rcases h6 b o hb with h7|h7
   ·simp only [mE] at h7
    split at h7
    ·rename_i e; right; rw [gw]; exact ⟨p,bq ..,e.symm⟩
    ·exact .inl h7
   ·right
    obtain ⟨q,hq,e⟩:=gw.1 h7
    exact gw.2 ⟨q,bv _ hq,e⟩

def TrSl {α:Type} (k:Nat) (R:aU->List Value->α->Prop) (L:aU) (v:Value) (xs:List α):Prop:=
 ∃ a cap,v=.slice a xs.length cap/\xs.length<=cap/\cap<=maxLen/\
  ((xs=[]/\L=[]) ∨ ∃ b c E,∃ Ls:List aU,a=some ⟨b,0,none⟩/\L=(b,.cells c E)::Ls.flatten/\Ls.length=xs.length/\cap * k<=c.size/\
   ∀ i (h:i<xs.length) (h':i<Ls.length),R Ls[i] (ba c (i * k) k) xs[i])
inductive TrT:aU->List Value->T->Prop
 | nil {k n:Int} {s:ByteArray} {a:Option Addr} {cap:Nat} (hk:inI k) (hn:inI n) (hs:s.size<=maxLen) (hc:cap<=maxLen) :
   TrT [] [.int .i64 k,.int .i64 n,.string s,.slice a 0 cap] (.mk k n s [])
 | cons {k n:Int} {s:ByteArray} {kids:List T} {b cap:Nat} {c:Array Value} {E:TypeId} {Ls:List aU} (hk:inI k) (hn:inI n) (hs:s.size<=maxLen) (hl:kids.length<=cap) (hc:cap<=maxLen)
   (hLs:Ls.length=kids.length) (hsz:cap * 4<=c.size) (h:∀ i (h:i<kids.length) (h':i<Ls.length),TrT Ls[i] (ba c (i * 4) 4) kids[i]) :
   TrT ((b,.cells c E)::Ls.flatten) [.int .i64 k,.int .i64 n,.string s,.slice (some ⟨b,0,none⟩) kids.length cap] (.mk k n s kids)
theorem TrT.iff {L:aU} {cs:List Value} {t:T}:TrT L cs t ↔
  ∃ ks,cs=[.int .i64 t.kind,.int .i64 t.n,.string t.name,ks]/\inI t.kind/\inI t.n/\t.name.size<=maxLen/\TrSl 4 TrT L ks t.kids:=by
 constructor
 ·intro h
  cases h with
  | nil hk hn hs hc=>exact ⟨_,rfl,hk,hn,hs,_,_,rfl,aR _,hc,.inl ⟨rfl,rfl⟩⟩
  | cons hk hn hs hl hc hLs hsz h=>exact ⟨_,rfl,hk,hn,hs,_,_,rfl,hl,hc,.inr ⟨_,_,_,_,rfl,rfl,hLs,hsz,h⟩⟩
 ·obtain ⟨k,n,s,kids⟩:=t
  rintro ⟨ks,rfl,hk,hn,hs,a,cap,rfl,hl,hc,h⟩
  rcases h with ⟨h,rfl⟩|⟨b,c,E,Ls,rfl,rfl,hLs,hsz,h⟩
  ·simp only [T.kids] at h
   subst h
   exact TrT.nil hk hn hs hc
  ·exact TrT.cons hk hn hs hl hc hLs hsz h
theorem TrT.length {L:aU} {cs:List Value} {t:T} (h:TrT L cs t):cs.length=4:=by
 obtain ⟨ks,rfl,_⟩:=TrT.iff.1 h; rfl
theorem TrT.one {L:aU} {cs:List Value} {t:T} (h:TrT L cs t):∀ u∈cs,u.oneCell'=true:=by
 obtain ⟨ks,rfl,_,_,_,a,cap,rfl,_⟩:=TrT.iff.1 h
 intro u hu
 simp at hu
 rcases hu with rfl|rfl|rfl|rfl <;> rfl
theorem RdT.one {S:ad} {cs:List Value} {t:T} (h:RdT S cs t):∀ u∈cs,u.oneCell'=true:=by
 obtain ⟨ks,rfl,_,_,_,a,cap,rfl,_⟩:=RdT.iff.1 h
 intro u hu
 simp at hu
 rcases hu with rfl|rfl|rfl|rfl <;> rfl
theorem zU {S:ad} {Ls:List aU} (h:Ins S Ls.flatten) {i:Nat} (hi:i<Ls.length):Ins S Ls[i]:=
 fun p hp=>h p (List.mem_flatten.2 ⟨_,bQ hi,hp⟩)
theorem TrSl.rd {α:Type} {S:ad} {k:Nat} {R:aU->List Value->α->Prop} {R':List Value->α->Prop} {L:aU} {v:Value} {xs:List α} (h:TrSl k R L v xs) (hi:Ins S L)
  (hR:∀ L cs x,Ins S L->R L cs x->R' cs x):RdSl S k R' v xs:=by
 obtain ⟨a,cap,rfl,hl,hc,h⟩:=h
 refine ⟨a,cap,rfl,hl,hc,?_⟩
 rcases h with ⟨h,_⟩|⟨b,c,E,Ls,rfl,rfl,hLs,hsz,h⟩
 ·exact .inl h
 ·refine .inr ⟨b,0,c,E,(0,0),rfl,hi _ (bq ..),fun i h1=>?_⟩
  rw [cZ]
  exact hR _ _ _ (zU (fun p hp=>hi p (bv _ hp)) (by omega)) (h i h1 (by omega))
theorem TrT.rd {S:ad} {L:aU} {cs:List Value} {t:T} (h:TrT L cs t) (hi:Ins S L):RdT S cs t:=by
 induction h with
 | nil hk hn hs hc=>exact RdT.nil hk hn hs hc
 | cons hk hn hs hl hc hLs hsz h ih=>
  refine RdT.cons hk hn hs hl hc (hi _ (bq ..)) (o:=0) fun i h1=>?_
  rw [cZ]
  exact ih i h1 (by omega) (zU (fun p hp=>hi p (bv _ hp)) (by omega))
def TrC (L:aU) (cs:List Value) (c:C):Prop:=∃ hd ks L1 L2,cs=hd++[ks]/\L=L1++L2/\TrT L1 hd c.head/\TrSl 4 TrT L2 ks c.body
theorem TrC.rd {S:ad} {L:aU} {cs:List Value} {c:C} (h:TrC L cs c) (hi:Ins S L):RdC S cs c:=by
 obtain ⟨hd,ks,L1,L2,rfl,rfl,h1,h2⟩:=h
 exact ⟨hd,ks,rfl,h1.rd hi.left,h2.rd hi.right fun _ _ _ hi h=>h.rd hi⟩
theorem TrC.length {L:aU} {cs:List Value} {c:C} (h:TrC L cs c):cs.length=5:=by
 obtain ⟨hd,ks,L1,L2,rfl,rfl,h1,h2⟩:=h; simp [h1.length]
theorem TrC.one {L:aU} {cs:List Value} {c:C} (h:TrC L cs c):∀ u∈cs,u.oneCell'=true:=by
 obtain ⟨hd,ks,L1,L2,rfl,rfl,h1,a,cap,rfl,_⟩:=h
 intro u hu
 rcases cd.1 hu with hu|hu
 ·exact h1.one u hu
 ·simp at hu; subst hu; rfl

section
variable {P:Program} {w w0:World} {X:List Nat} {L:List Item} {S:ad} {K:Value->World->Prop}
theorem Run.call0 {f:FuncId} {fn:Func} {args:List Value} {Post:Value->List Item->ad->Prop}
  (hf:P.funcs[f]?=some fn) (hn:(fn.name == "runtime.NumGoroutine" || fn.body.isNone)=false) (h:Inv w0 X L S w) (hc:Tri P f args [] S Post)
  (hk:∀ v I' S' w',Post v I' S'->Sle S S'->Inv w0 X (L++I') S' w'->K v w'):Run P (er (.func (.func f) #[] #[]) args) w K:=
 Run.call (A:=L) (I:=[]) hf hn (by simpa using h) hc hk
theorem cT {T U ty ty' E:TypeId} {f d b:Nat} {c:Array Value} {v:Value} (hI:Inv w0 X L S w) (i:Nat) (hi:L[i]?=some (.blk b (.cells c E))) (hf:bz P T f=some d) (hU:iq P U=true) (hlt:Nat.blt d c.size=true)
  (hv:v.cells=#[v]) (h1:v.oneCell'=true)
  {K:Value->Value->World->Prop} (hk:∀ w',Inv w0 X (L.set i (.blk b (.cells (c.setIfInBounds d v) E))) S w'->K (.pointer (some ⟨b,d,none⟩)) undef w') :
  Run P (sOp (.fieldAddr T (.const (.pointer (some ⟨b,0,none⟩))) f) ty) w fun q w'=>Run P (sOp (.store U (.const q) (.const v)) ty') w' (K q):=by
 have hlt:d<c.size:=by simpa [Nat.blt_eq] using hlt
 refine aC hf ?_
 rw [cZ]
 refine df hI i (n:=1) (by rw [hv]; rfl) (by rw [hU]; rfl) hi (by omega) (by rw [hv]; simpa using h1) fun w' hI'=>hk w' ?_
 have:bR c d v.cells.toList=c.setIfInBounds d v:=by
  rw [hv]
  apply Bk.1
  simp only [bR,Rv]
  have hl:d<c.toList.length:=by simpa using hlt
  rw [AH,ai hl]
  simp
 rw [this] at hI'
 exact hI'
theorem PD {T ty E:TypeId} {o b n:Nat} {c:Array Value} {v:Value} (hI:Inv w0 X L S w) (i:Nat) (hi:L[i]?=some (.blk b (.cells c E))) (hT:pL P T=some n) (hn:v.cells.size=n) (hfit:Nat.ble (o+n) c.size=true)
  (h1:∀ u∈v.cells.toList,u.oneCell'=true) (hk:∀ w',Inv w0 X (L.set i (.blk b (.cells (bR c o v.cells.toList) E))) S w'->K undef w') :
  Run P (sOp (.store T (.const (.pointer (some ⟨b,o,none⟩))) (.const v)) ty) w K:=
 df hI i hn (by rw [hT]; simp) hi (jS hfit) h1 hk
theorem aA {T ty E:TypeId} {b n:Nat} {c cs:Array Value} (hI:Inv w0 X L S w) (i:Nat) (hi:L[i]?=some (.blk b (.cells c E))) (hT:pL P T=some n) (hn:cs.size=n) (hc:c.size=n)
  (h1:∀ u∈cs.toList,u.oneCell'=true) (hk:∀ w',Inv w0 X (L.set i (.blk b (.cells cs E))) S w'->K undef w') :
  Run P (sOp (.store T (.const (.pointer (some ⟨b,0,none⟩))) (.const (.agg cs))) ty) w K:=by
 refine df hI i (v:=.agg cs) (n:=n) hn (by rw [hT]; simp) hi (by omega) h1 fun w' hI'=>hk w' ?_
 have:bR c 0 (Value.agg cs).cells.toList=cs:=by
  rw [vV _ _ (by simp [Value.cells,hn,hc])]
  simp [Value.cells]
 rw [this] at hI'
 exact hI'
end

theorem TrSl.nil {α:Type} {k:Nat} {R:aU->List Value->α->Prop} {a:Option Addr} {cap:Nat} (hc:cap<=maxLen):TrSl k R [] (.slice a 0 cap) ([]:List α):=
 ⟨a,cap,rfl,aR _,hc,.inl ⟨rfl,rfl⟩⟩
def Part {α:Type} (k:Nat) (R:aU->List Value->α->Prop) (c:Array Value) (Ls:List aU) (xs:List α):Prop:=
 Ls.length=xs.length/\∀ i (h:i<xs.length) (h':i<Ls.length),R Ls[i] (ba c (i * k) k) xs[i]
theorem Part.nil {α:Type} (k:Nat) (R:aU->List Value->α->Prop) (c:Array Value):Part k R c [] ([]:List α):=⟨rfl,fun i h=>by simp at h⟩
theorem Part.snoc {α:Type} {k:Nat} {R:aU->List Value->α->Prop} {c:Array Value} {Ls:List aU} {xs:List α} (h:Part k R c Ls xs) {cs:List Value} {L:aU} {x:α} (hx:R L cs x) (hl:cs.length=k)
  (hfit:(xs.length+1) * k<=c.size):Part k R (bR c (xs.length * k) cs) (Ls++[L]) (xs++[x]):=by
 have hf:xs.length * k+cs.length<=c.size:=by rw [hl]; rw [wq,Nat.one_mul] at hfit; exact hfit
 refine ⟨by simp [h.1],fun i h1 h2=>?_⟩
 by_cases hi:i<xs.length
 ·have h3:i<Ls.length:=by rw [h.1]; exact hi
  rw [ft h3,ft hi,jR hf]
  ·exact h.2 i hi h3
  ·left
   have:(i+1) * k<=xs.length * k:=iy _ hi
   rw [wq,Nat.one_mul] at this
   exact this
 ·have hi':i=xs.length:=by simp at h1; omega
  subst hi'
  have h3:xs.length=Ls.length:=h.1.symm
  rw [eT (by omega),eT (by omega)]
  simp only [h3,dY,kQ]
  rw [<- h3,<- hl,ip (by rw [hl] at hf ⊢; exact hf)]
  exact hx
theorem Part.sl {α:Type} {k:Nat} {R:aU->List Value->α->Prop} {b:Nat} {c:Array Value} {E:TypeId} {Ls:List aU} {xs:List α} {cap:Nat} (h:Part k R c Ls xs) (h1:xs.length<=cap) (h2:cap<=maxLen) (h3:cap * k<=c.size) :
  TrSl k R ((b,.cells c E)::Ls.flatten) (.slice (some ⟨b,0,none⟩) xs.length cap) xs:=
 ⟨_,cap,rfl,h1,h2,.inr ⟨b,c,E,Ls,rfl,rfl,h.1,h3,h.2⟩⟩
end
section
open Go Go.RowKit
section
variable {P:Program} {w:World} {K:Value->World->Prop} {ty:TypeId}
attribute [local irreducible] Run CondV aq aK
theorem i3 {a:Bool} {v:Value} {A:Prop} (ht:a=true->A) (hf:a=false->K (.bool false) w):aq (.bool a) true A (Run P (sOp (.pick (.const (.bool a)) (.const v) (.const (.bool false))) ty) w K):=
 JQ ht fun h=>by
  have h':a=false:=by simpa using h
  refine sK ?_
  rw [h']
  exact hf h'
theorem gg {a:Bool} {v u:Value} (ha:a=true) (hk:K v w):Run P (sOp (.pick (.const (.bool a)) (.const v) (.const u)) ty) w K:=by
 refine sK ?_
 rw [ha]
 exact hk
theorem m0 {v:Value} {A:Prop} (hk:K (.bool false) w):aq (.bool false) true A (Run P (sOp (.pick (.const (.bool false)) (.const v) (.const (.bool false))) ty) w K):=
 i3 (fun h=>by cases h) fun _=>hk
theorem Gj {a:Bool} {v:Value} {A:Prop} (ht:a=true->K (.bool true) w) (hf:a=false->A):aq (.bool a) false A (Run P (sOp (.pick (.const (.bool a)) (.const (.bool true)) (.const v)) ty) w K):=
 JQ hf fun h=>by
  have h':a=true:=by simpa using h
  refine sK ?_
  rw [h']
  exact ht h'
theorem xG {a:Bool} {v u:Value} (ha:a=false) (hk:K v w):Run P (sOp (.pick (.const (.bool a)) (.const u) (.const v)) ty) w K:=by
 refine sK ?_
 rw [ha]
 exact hk
theorem Ti {v:Value} {A:Prop} (hk:K (.bool true) w):aq (.bool true) false A (Run P (sOp (.pick (.const (.bool true)) (.const (.bool true)) (.const v)) ty) w K):=
 Gj (fun _=>hk) fun h=>by cases h
end

def oP (cs:List Value) (s:ByteArray):Prop:=cs=[.string s]
def l4 (cs:List Value) (n:Int):Prop:=cs=[.int .i64 n]
section
variable {P:Program} {w w0:World} {X:List Nat} {L:List Item} {S:ad} {K:Value->World->Prop}
attribute [local irreducible] Run CondV aq aK
theorem qD (h:Inv w0 X L S w) {s:Sem Next} {v:Nat->Value} {o:Obj} (hr:s.run P w=.ok (.value (v w.heap.size)) { w with heap:=w.heap.push o })
  (hk:∀ b w',Inv w0 X (L++[.blk b o]) S w'->K (v b) w'):Run P s w K:=Run.of hr (hk _ _ (h.alloc o))
theorem Inv.publishLast {b:Nat} {o:Obj} (h:Inv w0 X (L++[.blk b o]) S w):Inv w0 X L (mE S b o) w/\Sle S (mE S b o):=by
 have hi:(L++[Item.blk b o])[L.length]?=some (.blk b o):=by simp
 have:=h.publish hi
 rwa [show (L++[Item.blk b o]).eraseIdx L.length=L by simp [List.eraseIdx_append_of_length_le]] at this
theorem hY {α:Type} {T U ty ty' E:TypeId} {R:List Value->α->Prop} {v u:Value} {xs:List α} (hI:Inv w0 X L S w) (h:RdSl S 1 R v xs) (hu:cB P T=some (E,1)) (hU:iq P U=true)
  {i:Nat} (hi:i<xs.length) (hR:∀ cs,R cs xs[i]->cs=[u]) {K:Value->Value->World->Prop} (hk:K (elP v (i * 1)) u w) :
  Run P (sOp (.indexAddr T (.const v) (.const (.int .i64 i))) ty) w fun p w'=>Run P (sOp (.load U (.const p)) ty') w' (K p):=by
 obtain ⟨b,o,cap,c,E',fz,rfl,hS,hr⟩:=h.at_ hi
 refine aD hu hi ?_
 refine cA hU ?_ hk
 rw [hI.cellS hS]
 exact aL (hR _ hr) 0 u rfl
end
theorem RdSl.ofCells {α:Type} {S:ad} {R:List Value->α->Prop} {b n:Nat} {c:Array Value} {E:TypeId} {fz:Nat × Nat} {xs:List α} (hS:S b=some (.cells c E fz)) (hn:xs.length=n) (hm:n<=maxLen)
  (h:∀ i (h:i<xs.length),R (ba c i 1) xs[i]):RdSl S 1 R (.slice (some ⟨b,0,none⟩) n n) xs:=by
 subst hn
 exact ⟨_,_,rfl,aM _,hm,.inr ⟨b,0,c,E,fz,rfl,hS,fun i hi=>by rw [cZ,Nat.mul_one]; exact h i hi⟩⟩
end
section
open Go

def signs:List ByteArray:=[⟨#[43]⟩,⟨#[45]⟩,⟨#[42]⟩,⟨#[47,47]⟩,⟨#[61]⟩,⟨#[92,61]⟩,⟨#[61,61]⟩,⟨#[60]⟩,⟨#[62]⟩,⟨#[61,60]⟩,⟨#[62,61]⟩,⟨#[61,58,61]⟩,⟨#[46]⟩,⟨#[91,93]⟩,⟨#[33]⟩]
def p8 (b:UInt8):Bool:=decide (97<=b.toNat) && decide (b.toNat<=122)
def pD (s:ByteArray):Bool:=s.data.toList.all p8
def lc (s:ByteArray):Bool:=pD s && (decide (1<=s.size) && decide (s.size<=6))
def k0 (s:ByteArray):Bool:=lc s || signs.any fun x=>decide (x=s)
def emptyB:ByteArray:=⟨#[]⟩
def eN (t:T):Bool:=
 if t.kind=1 then decide (0<=t.n) && (decide (t.n<=25) && (decide (t.name=emptyB) && decide (t.kids.length=0)))
 else if t.kind=2 then decide (-999<=t.n) && (decide (t.n<=999) && (decide (t.name=emptyB) && decide (t.kids.length=0)))
 else if t.kind=3 then decide (t.n=0) && (k0 t.name && decide (t.kids.length<=4))
 else false
mutual
def gf:T->Int->Bool
 | .mk k n s ks,d=>if d<1 then false else eN (.mk k n s ks) && gh ks (d - 1)
def gh:List T->Int->Bool
 | [],_=>true
 | t::ts,d=>gf t d && gh ts d
end
mutual
def dZ:T->Int
 | .mk _ _ _ ks=>1+cR ks
def cR:List T->Int
 | []=>0
 | t::ts=>dZ t+cR ts
end
mutual
def jj:T->Int->Int
 | .mk _ _ _ ks,most=>fx ks 1 most
def fx:List T->Int->Int->Int
 | [],n,_=>n
 | t::ts,n,most=>if n<=most then fx ts (n+jj t (most - n)) most else n
end
def dJ (t:T):Bool:=gf t 30 && decide (dZ t<=120)

mutual
theorem ut:∀ t:T,1<=dZ t
 | .mk _ _ _ ks=>by simp only [dZ]; have:=fk ks; omega
theorem fk:∀ ts:List T,0<=cR ts
 | []=>by simp [cR]
 | t::ts=>by simp only [cR]; have:=ut t; have:=fk ts; omega
end
mutual
theorem wQ:∀ (t:T) (most:Int),0<=most->(dZ t<=most->jj t most=dZ t)/\(most<dZ t->most<jj t most/\jj t most<=dZ t)
 | .mk _ _ _ ks,most,h=>by
  simp only [dZ,jj]
  have:=EF ks 1 most h (by omega)
  exact this
theorem EF:∀ (ts:List T) (n most:Int),0<=most->1<=n->(n+cR ts<=most->fx ts n most=n+cR ts)/\(most<n+cR ts->most<fx ts n most/\fx ts n most<=n+cR ts)
 | [],n,most,h,h1=>by
  simp only [cR,fx]
  exact ⟨fun _=>by omega,fun _=>by omega⟩
 | t::ts,n,most,h,h1=>by
  simp only [cR,fx]
  have hp:=ut t
  have hl:=fk ts
  by_cases hn:n<=most
  ·rw [ai hn]
   have ht:=wQ t (most - n) (by omega)
   by_cases hc:dZ t<=most - n
   ·rw [ht.1 hc]
    have hr:=EF ts (n+dZ t) most h (by omega)
    exact ⟨fun h2=>by rw [hr.1 (by omega)]; omega,fun h2=>by have:=hr.2 (by omega); omega⟩
   ·have h3:=ht.2 (by omega)
    have h4:fx ts (n+jj t (most - n)) most=n+jj t (most - n):=by
     cases ts with
     | nil=>rfl
     | cons u us=>rw [fx,af (by omega)]
    rw [h4]
    exact ⟨fun h2=>by omega,fun h2=>by omega⟩
  ·rw [af hn]
   exact ⟨fun h2=>by omega,fun h2=>by omega⟩
end
theorem Nj (t:T):decide (jj t 120<=120)=decide (dZ t<=120):=by
 have h:=wQ t 120 (by omega)
 by_cases hc:dZ t<=120
 ·rw [h.1 hc]
 ·have:=h.2 (by omega)
  rw [bg (by omega),bg hc]

mutual
def eQ:T->Int->Int->Bool × Int
 | .mk k n s ks,deep,c=>
  if 120<c+1 ∨ 30<deep then (false,c+1)
  else if k=1 ∨ k=2 then (eN (.mk k n s ks),c+1)
  else if k=3 then (if eN (.mk k n s ks) then kj ks (deep+1) (c+1) else (false,c+1))
  else (false,c+1)
def kj:List T->Int->Int->Bool × Int
 | [],_,c=>(true,c)
 | t::ts,deep,c=>if (eQ t deep c).1 then kj ts deep (eQ t deep c).2 else (false,(eQ t deep c).2)
end
theorem PP {k n:Int} {s:ByteArray} {ks:List T} (h:eN (.mk k n s ks)=true) (hk:k=1 ∨ k=2):ks=[]:=by
 unfold eN at h
 simp only [T.kind,T.n,T.name,T.kids] at h
 rcases hk with rfl|rfl <;> simp at h <;> exact h.2.2.2
theorem OE {k n:Int} {s:ByteArray} {ks:List T} (h:eN (.mk k n s ks)=true):k=1 ∨ k=2 ∨ k=3:=by
 unfold eN at h
 simp only [T.kind,T.n,T.name,T.kids] at h
 by_cases h1:k=1
 ·exact .inl h1
 ·by_cases h2:k=2
  ·exact .inr (.inl h2)
  ·by_cases h3:k=3
   ·exact .inr (.inr h3)
   ·simp [h1,h2,h3] at h
mutual
theorem CA:∀ (t:T) (deep c:Int),(eQ t deep c).1=(gf t (31 - deep) && decide (c+dZ t<=120))/\((eQ t deep c).1=true->(eQ t deep c).2=c+dZ t)
 | .mk k n s ks,deep,c=>by
  have hl:=fk ks
  rw [show dZ (T.mk k n s ks)=1+cR ks from rfl]
  simp only [eQ,gf]
  by_cases h1:120<c+1 ∨ 30<deep
  ·rw [ai h1]
   refine ⟨?_,fun h=>by cases h⟩
   rcases h1 with h1|h1
   ·rw [bg (show ¬ (c+(1+cR ks)<=120) by omega),vq]
   ·rw [ai (show 31 - deep<1 by omega)]; rfl
  ·rw [af h1,af (show ¬ (31 - deep<1) by omega)]
   by_cases h2:k=1 ∨ k=2
   ·rw [ai h2]
    cases ho:eN (.mk k n s ks) with
    | false=>exact ⟨rfl,fun h=>by cases h⟩
    | true=>
     have:=PP ho h2
     subst this
     rw [show cR []=0 from rfl]
     simp only [gh,dU]
     exact ⟨by rw [aS (show c+(1+0)<=120 by omega)],fun _=>by omega⟩
   ·rw [af h2]
    by_cases h3:k=3
    ·rw [ai h3]
     cases ho:eN (.mk k n s ks) with
     | false=>exact ⟨rfl,fun h=>by cases h⟩
     | true=>
      simp only [if_true,dU]
      have:=Hr ks (deep+1) (c+1)
      rw [show 31 - (deep+1)=31 - deep - 1 by omega] at this
      rw [show c+(1+cR ks)=c+1+cR ks by omega]
      refine ⟨?_,this.2⟩
      rw [this.1]
      cases ks with
      | nil=>rw [show cR []=0 from rfl,aS (show c+1+0<=120 by omega)]; rfl
      | cons t ts=>simp
    ·rw [af h3]
     have ho:eN (.mk k n s ks)=false:=by
      rw [<- Jt]
      intro h
      rcases OE h with e|e|e
      ·exact h2 (.inl e)
      ·exact h2 (.inr e)
      ·exact h3 e
     rw [ho]
     exact ⟨rfl,fun h=>by cases h⟩
theorem Hr:∀ (ts:List T) (deep c:Int),(kj ts deep c).1=(gh ts (31 - deep) && (ts.isEmpty || decide (c+cR ts<=120)))/\((kj ts deep c).1=true->(kj ts deep c).2=c+cR ts)
 | [],deep,c=>by simp [kj,gh,cR]
 | t::ts,deep,c=>by
  have ht:=CA t deep c
  have hp:=fk ts
  rw [show cR (t::ts)=dZ t+cR ts from rfl]
  simp only [kj,gh,List.isEmpty_cons,gc]
  cases h1:(eQ t deep c).1 with
  | false=>
   rw [h1] at ht
   have h2:=ht.1
   refine ⟨?_,fun h=>by cases h⟩
   simp only [H0,if_false]
   cases hs:gf t (31 - deep) with
   | false=>rfl
   | true=>
    rw [hs,dU] at h2
    have:¬ (c+dZ t<=120):=of_decide_eq_false h2.symm
    rw [bg (show ¬ (c+(dZ t+cR ts)<=120) by omega),vq]
  | true=>
   rw [h1] at ht
   have h2:=ht.1
   have h3:=ht.2 rfl
   simp only [if_true]
   rw [h3]
   have hs:gf t (31 - deep)=true/\c+dZ t<=120:=by
    have:=h2.symm
    simpa using this
   have hl:=Hr ts deep (c+dZ t)
   rw [show c+(dZ t+cR ts)=c+dZ t+cR ts by omega]
   refine ⟨?_,hl.2⟩
   rw [hl.1,hs.1,dU]
   cases ts with
   | nil=>rw [show cR []=0 from rfl,aS (show c+dZ t+0<=120 by omega)]; rfl
   | cons u us=>simp
end
theorem LL (t:T):(eQ t 1 0).1=dJ t:=by
 rw [(CA t 1 0).1,dJ]
 simp
end
section
open Go Go.RowKit
attribute [local irreducible] Run CondV aq aK

mutual
def wT:T->Nat
 | .mk _ _ s ks=>s.size+ks.length+wL ks
def wL:List T->Nat
 | []=>0
 | t::ts=>wT t+wL ts
end
theorem jf:∀ {ts:List T} {t:T},t∈ts->wT t<=wL ts
 | x::xs,t,h=>by
  simp only [wL]
  rcases cQ.1 h with rfl|h
  ·omega
  ·have:=jf h; omega

abbrev HP {α:Type} (k:Nat) (R:aU->List Value->α->Prop) (S:ad) (xs:List α):Value->List Item->ad->Prop:=
 fun v I' S'=>S'=S/\∃ L,I'=bj L/\TrSl k R L v xs
abbrev Eu (S:ad) (t:T):Value->List Item->ad->Prop:=fun v I' S'=>S'=S/\∃ cs L,v=.agg cs.toArray/\I'=bj L/\TrT L cs t

def wC (c:C):Nat:=wT c.head+c.body.length+wL c.body
def wP:List C->Nat
 | []=>0
 | c::cs=>wC c+wP cs
theorem FJ:∀ {cs:List C} {c:C},c∈cs->wC c<=wP cs
 | x::xs,c,h=>by
  simp only [wP]
  rcases cQ.1 h with rfl|h
  ·omega
  ·have:=FJ h; omega
abbrev Rd (S:ad) (c:C):Value->List Item->ad->Prop:=fun v I' S'=>S'=S/\∃ cs L,v=.agg cs.toArray/\I'=bj L/\TrC L cs c
end
section
open Go Go.RowKit
attribute [local irreducible] Run CondV aq aK

theorem Hu {α:Type} (p:α->Bool) (l:List α) (k:Nat) (h:k<l.length):(l.drop k).all p=(p l[k] && (l.drop (k+1)).all p):=by
 rw [di h,List.all_cons]
theorem Ip {α:Type} (p:α->Bool) (l:List α) (k:Nat) (h:k<l.length):(l.drop k).any p=(p l[k] || (l.drop (k+1)).any p):=by
 rw [di h,eH]
theorem mX (s:ByteArray):s.data.toList.length=s.size:=by rw [KY]; rfl
theorem IZ (s:ByteArray) (k:Nat) (h:k<s.size):s.data.toList[k]'(by rw [mX]; exact h)=s[k]:=rfl

theorem tN (s:ByteArray) (hs:s.size<=maxLen) (S:ad):Pure Tryz.prog Lm [.string s] S (.bool (lc s)):=by
 intro w hI
 simp only [maxLen] at hs
 refine xO.2 ?_
 dsimp only[xO,aG]
 refine ⟨fun i w'=>∃ k:Nat,k<=s.size/\i=.int .i64 k/\(s.data.toList.drop k).all p8=pD s/\Inv w [] [] S w',fun i _=>s.size - (intOf i).toNat,⟨0,aR _,rfl,rfl,hI⟩,?_⟩
 intro t3 _ _ _ _ _ _ _ _ _ _ _ _ _ _ _ _ _ w'
 rintro ⟨k,hk,rfl,hrel,hI⟩
 refine g8 aJ ?_
 refine bL ?_
 refine aH (fun hki=>?_) (fun hki=>?_)
 ·have hk':k<s.size:=by omega
  have hstep:=Hu p8 s.data.toList k (by rw [mX]; exact hk')
  rw [IZ s k hk'] at hstep
  refine ⟨fun t w'=>t=.bool (!p8 s[k])/\Inv w [] [] S w',?_,?_⟩
  ·refine kz aJ hk' ?_
   refine bL ?_
   refine Gj (fun h=>⟨?_,hI⟩) (fun h=>?_)
   ·have h:=of_decide_eq_true h
    rw [p8,bg (show ¬ 97<=s[k].toNat by omega)]; rfl
   ·refine kz aJ hk' ?_
    refine eU ?_
    refine xG h ⟨?_,hI⟩
    have h:=of_decide_eq_false h
    rw [p8,aS (show 97<=s[k].toNat by omega),dU]
    by_cases h2:s[k].toNat<=122
    ·rw [aS h2,bg (by omega)]; rfl
    ·rw [bg h2,aS (by omega)]; rfl
  intro t _ _ _ _ _ _ _ _ _ w'
  rintro ⟨rfl,hI⟩
  refine aw (fun h=>done hI ?_) (fun h=>?_)
  ·simp at h
   rw [lc,<- hrel,hstep,h]; rfl
  ·simp at h
   refine bn (by omega) ?_
   refine ⟨⟨k+1,hk',rfl,by rw [<- hrel,hstep,h]; rfl,hI⟩,by simp [intOf]; omega⟩
 ·have:k=s.size:=by omega
  subst this
  have hl:pD s=true:=by rw [<- hrel,<- mX,dP]; rfl
  refine g8 aJ ?_
  refine kX ?_
  refine i3 (fun h=>?_) (fun h=>done hI ?_)
  ·refine g8 aJ ?_
   refine eL ?_
   refine gg h (done hI ?_)
   have h:=of_decide_eq_true h
   rw [lc,hl,aS (show 1<=s.size by omega)]
   by_cases h2:s.size<=6
   ·rw [aS h2,aS (by omega)]; rfl
   ·rw [bg h2,bg (by omega)]; rfl
  ·have h:=of_decide_eq_false h
   rw [lc,hl,bg (show ¬ 1<=s.size by omega)]; rfl

def wD:Array Value:=(signs.map Value.string).toArray
theorem H5 {S:ad} {b:Nat} {E:TypeId} (hS:S b=some (.cells wD E)):RdSl S 1 oP (.slice (some ⟨b,0,none⟩) 15 15) signs:=by
 refine RdSl.ofCells hS rfl (by decide) ?_
 intro i hi
 have hi':i<15:=hi
 match i,hi' with
 | 0,_|1,_|2,_|3,_|4,_|5,_|6,_|7,_|8,_|9,_|10,_|11,_|12,_|13,_|14,_=>rfl
abbrev D3 (S:ad):Value->List Item->ad->Prop:=fun v I' S'=>I'=[]/\Sle S S'/\RdSl S' 1 oP v signs
theorem I6 {S:ad} {b n:Nat} {o:Obj} (h:n<=b) (hs:Sle S (mE S b o)):Ext n [] S (mE S b o):=
 ⟨hs,fun c o' hc=>by
  simp only [mE] at hc
  split at hc
  ·rename_i e; subst e; exact .inr (.inr h)
  ·exact .inl hc⟩
theorem sk (S:ad):Tri Tryz.prog JL [] [] S (D3 S):=by
 intro w hI
 refine u7.2 ?_
 dsimp only[u7,oJ]
 refine qD (v:=fun b=>.slice (some ⟨b,0,none⟩) 15 15) (o:=.cells wD fB) hI (by kernel_rfl) fun b w' hI=>?_
 have hnew:w.heap.size<=b:=by
  rcases hI.new b (by simp [bu,Item.foot]) with h|h
  ·simp [bu] at h
  ·exact h
 obtain ⟨h1,h2⟩:=Inv.publishLast (L:=[]) hI
 exact ⟨_,_,_,rfl,h1,I6 hnew h2,rfl,h2,H5 (by simp [mE]; rfl)⟩
theorem Iy (s:ByteArray) {xs:List ByteArray} {S:ad} {v:Value} (h:RdSl S 1 oP v xs):Pure Tryz.prog Ny [v,.string s] S (.bool (xs.any fun x=>decide (x=s))):=by
 intro w hI
 have hlen:=h.le
 simp only [maxLen] at hlen
 refine CK.2 ?_
 dsimp only[CK,aO]
 refine ⟨fun i w'=>∃ k:Nat,k<=xs.length/\i=.int .i64 k/\(xs.drop k).any (fun x=>decide (x=s))=xs.any (fun x=>decide (x=s))/\Inv w [] [] S w',fun i _=>xs.length - (intOf i).toNat,⟨0,aR _,rfl,rfl,hI⟩,?_⟩
 intro t3 _ _ _ _ _ _ _ _ _ _ _ _ _ w'
 rintro ⟨k,hk,rfl,hrel,hI⟩
 refine aF h bM ?_
 refine bL ?_
 refine aH (fun hki=>?_) (fun hki=>?_)
 ·have hk':k<xs.length:=by omega
  have hstep:=Ip (fun x=>decide (x=s)) xs k hk'
  refine hY hI h bM aN hk' (fun cs hcs=>hcs) ?_
  refine bt ?_
  refine aw (fun he=>done hI ?_) (fun he=>?_)
  ·rw [<- hrel,hstep,he]; rfl
  ·refine bn (by omega) ?_
   exact ⟨⟨k+1,hk',rfl,by rw [<- hrel,hstep,he]; rfl,hI⟩,by simp [intOf]; omega⟩
 ·have:k=xs.length:=by omega
  subst this
  exact done hI (by rw [<- hrel,dP]; rfl)
theorem kC {w w':World} {L:List Item} {S S':ad} {r r':Value} (h:Inv w [] L S' w') (hs:Sle S S') (e:r'=r):Ending.returned r'=.returned r/\Inv w [] [] S w':=⟨by rw [e],h.nil.less hs⟩
theorem xq (s:ByteArray) (hs:s.size<=maxLen) (S:ad):Pure Tryz.prog CQ [.string s] S (.bool (k0 s)):=by
 intro w hI
 refine p5.2 ?_
 dsimp only[p5,aG]
 refine Run.callPure y4 yW hI (tN s hs S) fun w' hI=>?_
 refine Gj (fun h=>done hI ?_) (fun h=>?_)
 ·rw [k0,h]; rfl
 ·refine Run.call0 uy tS hI (sk S) fun v' I' S' w'=>?_
  rintro ⟨rfl,_,hr⟩ hle hI
  refine Run.callPure Kh Kr hI (Iy s hr) fun w' hI=>?_
  refine xG h (kC hI hle ?_)
  rw [k0,h]; rfl

theorem Ia {t:T} {S:ad} {cs:List Value} (h:RdT S cs t):Pure Tryz.prog Nl [.agg cs.toArray] S (.bool (eN t)):=by
 intro w hI
 obtain ⟨kv,rfl,_,_,hs,hks⟩:=RdT.iff.1 h
 obtain ⟨k,n,s,ks⟩:=t
 simp only [T.name,T.kids,T.kind,T.n] at hs hks ⊢
 refine BV.2 ?_
 dsimp only[BV,aG]
 refine bp hI fun b1 w' hI=>?_
 refine ae hI 0 rfl aV aI rfl ?_
 refine bl ?_
 refine aH (fun hk=>?_) (fun hk=>?_)
 ·have ho:eN (.mk k n s ks)=(decide (0<=n) && (decide (n<=25) && (decide (s=emptyB) && decide (ks.length=0)))):=by
   rw [eN]; exact ai hk
  refine ae hI 0 rfl bm aI rfl ?_
  refine kX ?_
  refine i3 (fun h1=>?_) (fun h1=>?_)
  ·refine ae hI 0 rfl bm aI rfl ?_
   refine eL ?_
   refine gg h1 ?_
   refine i3 (fun h2=>?_) (fun h2=>?_)
   ·refine ae hI 0 rfl aW aN rfl ?_
    refine bt ?_
    refine gg h2 ?_
    refine i3 (fun h3=>?_) (fun h3=>done hI ?_)
    ·refine ae hI 0 rfl av ao rfl ?_
     refine aF hks ah ?_
     refine bl ?_
     refine gg h3 (done hI ?_)
     rw [ho,h1,h2,show decide (s=emptyB)=true from h3]
     simp
    ·rw [ho,h1,h2,show decide (s=emptyB)=false from h3]; rfl
   ·refine m0 (done hI ?_)
    rw [ho,h1,h2]; rfl
  ·refine m0 (m0 (done hI ?_))
   rw [ho,h1]; rfl
 refine bl ?_
 refine aH (fun hk2=>?_) (fun hk2=>?_)
 ·have ho:eN (.mk k n s ks)=(decide (-999<=n) && (decide (n<=999) && (decide (s=emptyB) && decide (ks.length=0)))):=by
   rw [eN]; exact (af hk).trans (ai hk2)
  refine ae hI 0 rfl bm aI rfl ?_
  refine kX ?_
  refine i3 (fun h1=>?_) (fun h1=>?_)
  ·refine ae hI 0 rfl bm aI rfl ?_
   refine eL ?_
   refine gg h1 ?_
   refine i3 (fun h2=>?_) (fun h2=>?_)
   ·refine ae hI 0 rfl aW aN rfl ?_
    refine bt ?_
    refine gg h2 ?_
    refine i3 (fun h3=>?_) (fun h3=>done hI ?_)
    ·refine ae hI 0 rfl av ao rfl ?_
     refine aF hks ah ?_
     refine bl ?_
     refine gg h3 (done hI ?_)
     rw [ho,h1,h2,show decide (s=emptyB)=true from h3]
     simp
    ·rw [ho,h1,h2,show decide (s=emptyB)=false from h3]; rfl
   ·refine m0 (done hI ?_)
    rw [ho,h1,h2]; rfl
  ·refine m0 (m0 (done hI ?_))
   rw [ho,h1]; rfl
 refine bl ?_
 refine aH (fun hk3=>?_) (fun hk3=>done hI ?_)
 ·have ho:eN (.mk k n s ks)=(decide (n=0) && (k0 s && decide (ks.length<=4))):=by
   rw [eN]; exact (af hk).trans ((af hk2).trans (ai hk3))
  refine ae hI 0 rfl bm aI rfl ?_
  refine bl ?_
  refine i3 (fun h1=>?_) (fun h1=>?_)
  ·refine ae hI 0 rfl aW aN rfl ?_
   refine Run.callPure Cy Cn hI (xq s hs S) fun w' hI=>?_
   refine gg h1 ?_
   refine i3 (fun h2=>?_) (fun h2=>done hI ?_)
   ·refine ae hI 0 rfl av ao rfl ?_
    refine aF hks ah ?_
    refine eL ?_
    refine gg h2 (done hI ?_)
    rw [ho,h1,h2]
    simp
    omega
   ·rw [ho,h1,h2]; rfl
  ·refine m0 (done hI ?_)
   rw [ho,h1]; rfl
 ·rw [eN]
  exact congrArg Value.bool ((af hk).trans ((af hk2).trans (af hk3))).symm

theorem Da:∀ (t:T) (S:ad) (cs:List Value) (d:Int),RdT S cs t->-1<=d->d<=1000->Pure Tryz.prog IG [.agg cs.toArray,.int .i64 d] S (.bool (gf t d)):=by
 refine T.ind fun k n s ks ih S cs d h h0 h1=>?_
 intro w hI
 have hcs:=h
 obtain ⟨kv,rfl,_,_,hs,hks⟩:=RdT.iff.1 h
 simp only [T.name,T.kids,T.kind,T.n] at hs hks ⊢
 have hlen:=hks.le
 simp only [maxLen] at hlen
 refine tR.2 ?_
 dsimp only[tR,aO]
 refine bp hI fun b1 w' hI=>?_
 refine ⟨fun t w'=>t=.bool (decide (d<1) || !eN (.mk k n s ks))/\Inv w [] [.blk b1 (.cells #[.int .i64 k,.int .i64 n,.string s,kv] ab)] S w',?_,?_⟩
 ·refine bL ?_
  refine Gj (fun h=>⟨by rw [h]; rfl,hI⟩) (fun h=>?_)
  refine az hI 0 ac rfl rfl ?_
  refine Run.callPure K6 Ln hI (Ia hcs) fun w' hI=>?_
  refine ct ?_
  exact xG h ⟨by rw [h]; rfl,hI⟩
 intro t _ _ _ _ _ _ w'
 rintro ⟨rfl,hI⟩
 refine aw (fun hb=>done hI ?_) (fun hb=>?_)
 ·rw [gf]
  by_cases hd:d<1
  ·rw [ai hd]
  ·rw [af hd]
   simp [hd] at hb
   rw [hb]; rfl
 have hd:¬ d<1:=fun h=>by simp [h] at hb
 have ho:eN (.mk k n s ks)=true:=by simp [hd] at hb; exact hb
 refine ⟨fun i w'=>∃ j:Nat,j<=ks.length/\i=.int .i64 j/\gh (ks.drop j) (d - 1)=gh ks (d - 1)/\Inv w [] [.blk b1 (.cells #[.int .i64 k,.int .i64 n,.string s,kv] ab)] S w',
  fun i _=>ks.length - (intOf i).toNat,⟨0,aR _,rfl,rfl,hI⟩,?_⟩
 intro t5 _ _ _ _ _ _ _ _ _ _ _ _ _ _ _ _ _ w'
 rintro ⟨j,hj,rfl,hrel,hI⟩
 refine ae hI 0 rfl av ao rfl ?_
 refine aF hks ah ?_
 refine bL ?_
 refine aH (fun hji=>?_) (fun hji=>?_)
 ·have hj':j<ks.length:=by omega
  have hstep:gh (ks.drop j) (d - 1)=(gf ks[j] (d - 1) && gh (ks.drop (j+1)) (d - 1)):=by
   rw [di hj',gh]
  refine ae hI 0 rfl av ao rfl ?_
  refine cj hI hks ah ac hj' (fun _ _=>RdT.length) fun cs' hcs'=>?_
  refine kY (by omega) ?_
  refine Run.callPure vH tF hI (ih _ (bQ hj') S cs' (d - 1) hcs' (by omega) (by omega)) fun w' hI=>?_
  refine ct ?_
  refine aw (fun hne=>done hI ?_) (fun he=>?_)
  ·simp at hne
   rw [gf,af hd,ho,<- hrel,hstep,hne]; rfl
  ·simp at he
   refine bn (by omega) ?_
   exact ⟨⟨j+1,hj',rfl,by rw [<- hrel,hstep,he]; rfl,hI⟩,by simp [intOf]; omega⟩
 ·have:j=ks.length:=by omega
  subst this
  refine done hI ?_
  rw [gf,af hd,ho,<- hrel,dP,gh]; rfl

theorem sw:∀ (ts:List T) (j:Nat) (h:j<ts.length),cR (ts.drop j)=dZ ts[j]+cR (ts.drop (j+1)):=by
 intro ts j h
 rw [di h,cR]
theorem CM:∀ (t:T) (S:ad) (cs:List Value) (most:Int),RdT S cs t->0<=most->most<=1000->dZ t<=4611686018427387904->Pure Tryz.prog JM [.agg cs.toArray,.int .i64 most] S (.int .i64 (jj t most)):=by
 refine T.ind fun k n s ks ih S cs most h h0 h1 hc=>?_
 intro w hI
 obtain ⟨kv,rfl,_,_,hs,hks⟩:=RdT.iff.1 h
 simp only [T.name,T.kids,T.kind,T.n] at hs hks ⊢
 have hlen:=hks.le
 simp only [maxLen] at hlen
 rw [show dZ (T.mk k n s ks)=1+cR ks from rfl] at hc
 refine s7.2 ?_
 dsimp only[s7,aO]
 refine bp hI fun b1 w' hI=>?_
 refine ⟨fun i m w'=>∃ (j:Nat) (c:Int),j<=ks.length/\i=.int .i64 j/\m=.int .i64 c/\1<=c/\c+cR (ks.drop j)<=1+cR ks/\fx (ks.drop j) c most=fx ks 1 most/\Inv w [] [.blk b1 (.cells #[.int .i64 k,.int .i64 n,.string s,kv] ab)] S w',
  fun i _ _=>ks.length - (intOf i).toNat,⟨0,1,aR _,rfl,rfl,by omega,by rw [MH]; omega,rfl,hI⟩,?_⟩
 intro t6 _ _ t5 _ _ _ _ _ _ _ _ _ _ _ _ _ _ _ _ _ _ _ _ _ w'
 rintro ⟨j,c,hj,rfl,rfl,hc1,hc2,hrel,hI⟩
 refine ⟨fun t w'=>t=.bool (decide (j<ks.length) && decide (c<=most))/\Inv w [] [.blk b1 (.cells #[.int .i64 k,.int .i64 n,.string s,kv] ab)] S w',?_,?_⟩
 ·refine ae hI 0 rfl av ao rfl ?_
  refine aF hks ah ?_
  refine bL ?_
  refine i3 (fun h=>?_) (fun h=>⟨?_,hI⟩)
  ·refine eL ?_
   refine gg h ⟨?_,hI⟩
   rw [aS (show j<ks.length from by have:=of_decide_eq_true h; omega)]; rfl
  ·rw [bg (show ¬ j<ks.length from by have:=of_decide_eq_false h; omega)]; rfl
 intro t _ _ _ _ _ _ _ _ _ w'
 rintro ⟨rfl,hI⟩
 refine aw (fun hb=>?_) (fun hb=>done hI ?_)
 ·simp at hb
  obtain ⟨hj',hcm⟩:=hb
  have hsp:=sw ks j hj'
  have hstep:fx (ks.drop j) c most=fx (ks.drop (j+1)) (c+jj ks[j] (most - c)) most:=by
   rw [di hj',fx,ai hcm]
  have hct:=wQ ks[j] (most - c) (by omega)
  have hp:=ut ks[j]
  have hlp:=fk (ks.drop (j+1))
  have hcle:1<=jj ks[j] (most - c)/\jj ks[j] (most - c)<=dZ ks[j]:=by
   by_cases hq:dZ ks[j]<=most - c
   ·rw [hct.1 hq]; omega
   ·have:=hct.2 (by omega); omega
  refine ae hI 0 rfl av ao rfl ?_
  refine cj hI hks ah ac hj' (fun _ _=>RdT.length) fun cs' hcs'=>?_
  refine kY (by omega) ?_
  refine Run.callPure vN uN hI (ih _ (bQ hj') S cs' (most - c) hcs' (by omega) (by omega) (by omega)) fun w' hI=>?_
  refine bn (by omega) ?_
  refine bn (by omega) ?_
  exact ⟨⟨j+1,_,hj',rfl,rfl,by omega,by omega,by rw [<- hrel,hstep],hI⟩,by simp [intOf]; omega⟩
 ·show Value.int .i64 c=Value.int .i64 (fx ks 1 most)
  rw [<- hrel]
  by_cases hj':j<ks.length
  ·simp [hj'] at hb
   rw [di hj',fx,af (by omega)]
  ·rw [tM (by omega),fx]

mutual
theorem N7:∀ t:T,dZ t<=1+(wT t:Int)
 | .mk k n s ks=>by
  rw [show dZ (T.mk k n s ks)=1+cR ks from rfl,wT]
  have:=Fp ks
  omega
theorem Fp:∀ ts:List T,cR ts<=ts.length+(wL ts:Int)
 | []=>by simp [cR,wL]
 | t::ts=>by
  rw [show cR (t::ts)=dZ t+cR ts from rfl,wL,bk]
  have:=N7 t; have:=Fp ts
  omega
end

theorem mU {t:T} {S:ad} {cs:List Value} (h:RdT S cs t) (hc:dZ t<=4611686018427387904):Pure Tryz.prog Dk [.agg cs.toArray] S (.bool (dJ t)):=by
 intro w hI
 have hl:=h.length
 refine qF.2 ?_
 dsimp only[qF,aG]
 refine bp hI fun b1 w' hI=>?_
 refine az hI 0 ac rfl (by simpa [Value.cells] using hl) ?_
 refine Run.callPure vH tF hI (Da t S cs 30 h (by omega) (by omega)) fun w' hI=>?_
 refine i3 (fun h1=>?_) (fun h1=>done hI ?_)
 ·refine az hI 0 ac rfl (by simpa [Value.cells] using hl) ?_
  refine Run.callPure vN uN hI (CM t S cs 120 h (by omega) (by omega) hc) fun w' hI=>?_
  refine eL ?_
  refine gg h1 (done hI ?_)
  rw [dJ,h1,Nj]; rfl
 ·rw [dJ,h1]; rfl
end
section
open Go Go.RowKit
attribute [local irreducible] Run CondV aq aK

def ce {α σ:Type} (step:σ->α->Bool × σ):σ->List α->Nat->Int × σ
 | st,[],_=>(-1,st)
 | st,x::xs,k=>if (step st x).1 then ((k:Int),(step st x).2) else ce step (step st x).2 xs (k+1)
def rx {α σ:Type} (step:σ->α->Bool × σ):σ->List α->Bool × σ
 | st,[]=>(false,st)
 | st,x::xs=>if (step st x).1 then (true,(step st x).2) else rx step (step st x).2 xs
theorem im {α σ:Type} (step:σ->α->Bool × σ):∀ (xs:List α) (st:σ) (k:Nat),decide (0<=(ce step st xs k).1)=(rx step st xs).1/\(ce step st xs k).2=(rx step st xs).2
 | [],st,k=>by simp [ce,rx]
 | x::xs,st,k=>by
  by_cases h:(step st x).1=true
  ·simp [ce,rx,h]
  ·simpa [ce,rx,h] using im step xs (step st x).2 (k+1)
theorem jF {α:Type} (p:α->Bool):∀ xs:List α,rx (σ:=Unit) (fun _ x=>(p x,())) () xs=(xs.any p,())
 | []=>rfl
 | x::xs=>by
  simp only [rx,eH]
  cases h:p x with
  | true=>rfl
  | false=>rw [jF p xs]; rfl
abbrev fv (f:FuncId) (cap:List Value):Value:=.func (.func f) #[] cap.toArray
section
variable {P:Program} {w w0:World} {X:List Nat} {A I:List Item} {S:ad} {K:Value->World->Prop}
theorem DX {P:Program} {f:FuncId} {fn:Func} {cap args:List Value} {w:World} (hf:P.funcs[f]?=some fn) (hn:(fn.name == "runtime.NumGoroutine" || fn.body.isNone)=false) :
  (er (fv f cap) args).run P w=.ok (.enter f (args++cap).toArray) w:=by
 simp only [Mq] at hn
 have h1:¬ fn.name = "runtime.NumGoroutine" := by simpa using hn.1
 have h2:¬ fn.body=none:=fun e=>by rw [e] at hn; simp at hn
 simp [er,Deferred.ofValue,invoke,callFunc,hf,h1,h2]
theorem Run.callV {f:FuncId} {fn:Func} {cap args:List Value} {Post:Value->List Item->ad->Prop}
  (hf:P.funcs[f]?=some fn) (hn:(fn.name == "runtime.NumGoroutine" || fn.body.isNone)=false) (h:Inv w0 X (A++I) S w) (hc:Tri P f (args++cap) I S Post)
  (hk:∀ v I' S' w',Post v I' S'->Sle S S'->Inv w0 X (A++I') S' w'->K v w'):Run P (er (fv f cap) args) w K:=by
 unfold Run
 rw [DX hf hn]
 refine (hc w (h.sub (dz A I)).begin).mono ?_
 rintro e w' ⟨v,I',S',rfl,hI,hE,hP⟩
 exact hk v I' S' w' hP hE.1 (Inv.step h hI hE.2)
end
structure Cb (P:Program) (f:FuncId) (fn:Func) {α σ:Type} (cap:List Value) (S:ad) (It:σ->List Item) (ok:σ->Prop) (step:σ->α->Bool × σ) (R:Value->α->Prop) (xs:List α):Prop where
 hf:P.funcs[f]?=some fn
 hn:(fn.name == "runtime.NumGoroutine" || fn.body.isNone)=false
 keep:∀ st x,x∈xs->ok st->(step st x).1=false->ok (step st x).2
 call:∀ st x v,x∈xs->ok st->R v x->Tri P f (v::cap) (It st) S fun r I' S'=>r=.bool (step st x).1/\I'=It (step st x).2/\S'=S
theorem Cb.pure {P:Program} {f:FuncId} {fn:Func} {α:Type} {cap:List Value} {S:ad} {p:α->Bool} {R:Value->α->Prop} {xs:List α} (L:List Item) (hf:P.funcs[f]?=some fn) (hn:(fn.name == "runtime.NumGoroutine" || fn.body.isNone)=false)
  (h:∀ x v,x∈xs->R v x->Tri P f (v::cap) L S fun r I' S'=>r=.bool (p x)/\I'=L/\S'=S):Cb P f fn cap S (fun _:Unit=>L) (fun _=>True) (fun _ x=>(p x,())) R xs:=
 ⟨hf,hn,fun _ _ _ _ _=>trivial,fun _ x v hx _ hR=>h x v hx hR⟩

theorem vP {σ:Type} {f:FuncId} {fn:Func} {cap:List Value} {S:ad} {It:σ->List Item} {ok:σ->Prop} {step:σ->T->Bool × σ} {xs:List T} {v:Value}
  (hcb:Cb Tryz.prog f fn cap S It ok step (fun v x=>∃ cs,v=.agg cs.toArray/\RdT S cs x) xs) (h:RdSl S 4 (RdT S) v xs) {st:σ} (hok:ok st) :
  Tri Tryz.prog j9 [v,fv f cap] (It st) S fun r I' S'=>r=.int .i64 (ce step st xs 0).1/\I'=It (ce step st xs 0).2/\S'=S:=by
 intro w hI
 have hlen:=h.le
 simp only [maxLen] at hlen
 refine eG.2 ?_
 dsimp only[eG,aO]
 refine aF h ah ?_
 refine ⟨fun i w'=>∃ (k:Nat) (st':σ),k<=xs.length/\i=.int .i64 k/\ok st'/\ce step st' (xs.drop k) k=ce step st xs 0/\Inv w (bu (It st)) (It st') S w',fun i _=>xs.length - (intOf i).toNat,
  ⟨0,st,aR _,rfl,hok,rfl,hI⟩,?_⟩
 intro t8 _ _ _ _ _ _ _ _ _ _ _ _ w'
 rintro ⟨k,st',hk,rfl,hok',hrel,hI⟩
 refine bL ?_
 refine aH (fun hki=>?_) (fun hki=>?_)
 ·have hk':k<xs.length:=by omega
  have hm:=bQ hk'
  have hstep:ce step st' (xs.drop k) k=if (step st' xs[k]).1 then ((k:Int),(step st' xs[k]).2) else ce step (step st' xs[k]).2 (xs.drop (k+1)) (k+1):=by
   rw [di hk',ce]
  refine cj hI h ah ac hk' (fun _ _=>RdT.length) fun cs hcs=>?_
  refine Run.callV (A:=[]) (args:=[.agg cs.toArray]) hcb.hf hcb.hn (by simpa using hI) (hcb.call st' _ _ hm hok' ⟨cs,rfl,hcs⟩) fun v' I' S' w'=>?_
  rintro ⟨rfl,rfl,rfl⟩ _ hI
  refine aw (fun hb=>?_) (fun hb=>?_)
  ·rw [ai hb] at hstep
   refine ⟨_,_,_,rfl,by simpa using hI,Ext.refl _ _ _,?_,?_,rfl⟩
   ·rw [<- hrel,hstep]
   ·rw [<- hrel,hstep]
  ·refine bn (by omega) ?_
   rw [hb] at hstep
   refine ⟨⟨k+1,_,hk',rfl,hcb.keep st' _ hm hok' hb,?_,by simpa using hI⟩,by simp [intOf]; omega⟩
   rw [<- hrel,hstep]
   rfl
 ·have:k=xs.length:=by omega
  subst this
  rw [dP,ce] at hrel
  exact ⟨_,_,_,rfl,hI,Ext.refl _ _ _,by rw [<- hrel],by rw [<- hrel],rfl⟩
theorem i4 {σ:Type} {f:FuncId} {fn:Func} {cap:List Value} {S:ad} {It:σ->List Item} {ok:σ->Prop} {step:σ->T->Bool × σ} {xs:List T} {v:Value}
  (hcb:Cb Tryz.prog f fn cap S It ok step (fun v x=>∃ cs,v=.agg cs.toArray/\RdT S cs x) xs) (h:RdSl S 4 (RdT S) v xs) {st:σ} (hok:ok st) :
  Tri Tryz.prog ie [v,fv f cap] (It st) S fun r I' S'=>r=.bool (rx step st xs).1/\I'=It (rx step st xs).2/\S'=S:=by
 intro w hI
 refine dO.2 ?_
 dsimp only[dO,aO]
 refine Run.call (A:=[]) jq jo (by simpa using hI) (vP hcb h hok) fun v' I' S' w'=>?_
 rintro ⟨rfl,rfl,rfl⟩ _ hI
 refine kX ?_
 have he:=im step xs st 0
 exact ⟨_,_,_,rfl,by simpa using hI,Ext.refl _ _ _,by rw [he.1],by rw [he.2],rfl⟩
theorem rt {σ:Type} {f:FuncId} {fn:Func} {cap:List Value} {S:ad} {It:σ->List Item} {ok:σ->Prop} {step:σ->C->Bool × σ} {xs:List C} {v:Value}
  (hcb:Cb Tryz.prog f fn cap S It ok step (fun v x=>∃ cs,v=.agg cs.toArray/\RdC S cs x) xs) (h:RdSl S 5 (RdC S) v xs) {st:σ} (hok:ok st) :
  Tri Tryz.prog pw [v,fv f cap] (It st) S fun r I' S'=>r=.int .i64 (ce step st xs 0).1/\I'=It (ce step st xs 0).2/\S'=S:=by
 intro w hI
 have hlen:=h.le
 simp only [maxLen] at hlen
 refine ik.2 ?_
 dsimp only[ik,aO]
 refine aF h bi ?_
 refine ⟨fun i w'=>∃ (k:Nat) (st':σ),k<=xs.length/\i=.int .i64 k/\ok st'/\ce step st' (xs.drop k) k=ce step st xs 0/\Inv w (bu (It st)) (It st') S w',fun i _=>xs.length - (intOf i).toNat,
  ⟨0,st,aR _,rfl,hok,rfl,hI⟩,?_⟩
 intro t8 _ _ _ _ _ _ _ _ _ _ _ _ w'
 rintro ⟨k,st',hk,rfl,hok',hrel,hI⟩
 refine bL ?_
 refine aH (fun hki=>?_) (fun hki=>?_)
 ·have hk':k<xs.length:=by omega
  have hm:=bQ hk'
  have hstep:ce step st' (xs.drop k) k=if (step st' xs[k]).1 then ((k:Int),(step st' xs[k]).2) else ce step (step st' xs[k]).2 (xs.drop (k+1)) (k+1):=by
   rw [di hk',ce]
  refine cj hI h bi be hk' (fun _ _=>RdC.length) fun cs hcs=>?_
  refine Run.callV (A:=[]) (args:=[.agg cs.toArray]) hcb.hf hcb.hn (by simpa using hI) (hcb.call st' _ _ hm hok' ⟨cs,rfl,hcs⟩) fun v' I' S' w'=>?_
  rintro ⟨rfl,rfl,rfl⟩ _ hI
  refine aw (fun hb=>?_) (fun hb=>?_)
  ·rw [ai hb] at hstep
   refine ⟨_,_,_,rfl,by simpa using hI,Ext.refl _ _ _,?_,?_,rfl⟩
   ·rw [<- hrel,hstep]
   ·rw [<- hrel,hstep]
  ·refine bn (by omega) ?_
   rw [hb] at hstep
   refine ⟨⟨k+1,_,hk',rfl,hcb.keep st' _ hm hok' hb,?_,by simpa using hI⟩,by simp [intOf]; omega⟩
   rw [<- hrel,hstep]
   rfl
 ·have:k=xs.length:=by omega
  subst this
  rw [dP,ce] at hrel
  exact ⟨_,_,_,rfl,hI,Ext.refl _ _ _,by rw [<- hrel],by rw [<- hrel],rfl⟩
theorem nS {σ:Type} {f:FuncId} {fn:Func} {cap:List Value} {S:ad} {It:σ->List Item} {ok:σ->Prop} {step:σ->C->Bool × σ} {xs:List C} {v:Value}
  (hcb:Cb Tryz.prog f fn cap S It ok step (fun v x=>∃ cs,v=.agg cs.toArray/\RdC S cs x) xs) (h:RdSl S 5 (RdC S) v xs) {st:σ} (hok:ok st) :
  Tri Tryz.prog mz [v,fv f cap] (It st) S fun r I' S'=>r=.bool (rx step st xs).1/\I'=It (rx step st xs).2/\S'=S:=by
 intro w hI
 refine gq.2 ?_
 dsimp only[gq,aO]
 refine Run.call (A:=[]) o9 o5 (by simpa using hI) (rt hcb h hok) fun v' I' S' w'=>?_
 rintro ⟨rfl,rfl,rfl⟩ _ hI
 refine kX ?_
 have he:=im step xs st 0
 exact ⟨_,_,_,rfl,by simpa using hI,Ext.refl _ _ _,by rw [he.1],by rw [he.2],rfl⟩
end
end Go.Proofs.YtcpgagfdeflbkaaGreatDoor
