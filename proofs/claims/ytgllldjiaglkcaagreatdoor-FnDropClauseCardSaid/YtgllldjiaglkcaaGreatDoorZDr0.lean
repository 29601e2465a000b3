/- Data that a function has made for itself: trees of blocks that nobody else knows. -/
import Derived.Test.YtgllldjiaglkcaaGreatDoorZDrS
import Derived.Test.YtgllldjiaglkcaaGreatDoorZDrF
import Derived.Test.YtgllldjiaglkcaaGreatDoorZDrgz
namespace Go.Proofs.YtgllldjiaglkcaaGreatDoor
section
open Go Go.RowKit
attribute [local irreducible] Run CondV ai az

abbrev aN:=List (Nat × Obj)
def aV (L:aN):List Item:=L.map fun p=>.blk p.1 p.2
theorem cO (L M:aN):aV (L++M)=aV L++aV M:=by simp [aV]
def Ins (S:ad) (L:aN):Prop:=∀ p∈L,S p.1=some p.2
theorem Ins.mono {S S':ad} {L:aN} (h:Ins S L) (hs:Sle S S'):Ins S' L:=fun p hp=>hs _ _ (h p hp)
theorem Ins.left {S:ad} {L M:aN} (h:Ins S (L++M)):Ins S L:=fun p hp=>h p (List.mem_append_left _ hp)
theorem Ins.right {S:ad} {L M:aN} (h:Ins S (L++M)):Ins S M:=fun p hp=>h p (List.mem_append_right _ hp)
theorem fx {L:aN} {b:Nat}:b∈bk (aV L)↔∃ p∈L,p.1=b:=by
 simp only [bk,aV,List.mem_flatMap,List.mem_map]
 constructor
 ·rintro ⟨it,⟨p,hp,rfl⟩,hb⟩
  simp only [Item.foot,List.mem_singleton] at hb
  exact ⟨p,hp,hb.symm⟩
 ·rintro ⟨p,hp,rfl⟩
  exact ⟨_,⟨p,hp,rfl⟩,by simp [Item.foot]⟩

theorem Inv.publishAll {w0 w:World} {X:List Nat} {A:List Item}:∀ (L:aN) {S:ad},Inv w0 X (A++aV L) S w->
  ∃ S',Inv w0 X A S' w/\Sle S S'/\Ins S' L/\∀ b o,S' b=some o->S b=some o ∨ b∈bk (aV L)
 | [],S,h=>⟨S,by simpa [aV] using h,Sle.refl S,by intro p hp; simp at hp,fun b o hb=>.inl hb⟩
 | p::L,S,h=>by
  have hi:(A++aV (p::L))[A.length]?=some (.blk p.1 p.2):=by simp [aV]
  obtain ⟨h1,h2⟩:=h.publish hi
  have he:(A++aV (p::L)).eraseIdx A.length=A++aV L:=by simp [aV,List.eraseIdx_append_of_length_le]
  rw [he] at h1
  obtain ⟨S',h3,h4,h5,h6⟩:=publishAll L h1
  refine ⟨S',h3,h2.trans h4,fun q hq=>?_,fun b o hb=>?_⟩
  ·rcases List.mem_cons.1 hq with rfl|hq
   ·exact h4 _ _ (by simp [lh])
   ·exact h5 q hq
  ·rcases h6 b o hb with h7|h7
   ·simp only [lh] at h7
    split at h7
    ·rename_i e; right; rw [fx]; exact ⟨p,List.mem_cons_self ..,e.symm⟩
    ·exact .inl h7
   ·right
    obtain ⟨q,hq,e⟩:=fx.1 h7
    exact fx.2 ⟨q,List.mem_cons_of_mem _ hq,e⟩

def TrSl {α:Type} (k:Nat) (R:aN->List Value->α->Prop) (L:aN) (v:Value) (xs:List α):Prop:=
 ∃ a cap,v=.slice a xs.length cap/\xs.length<=cap/\cap<=maxLen/\
  ((xs=[]/\L=[]) ∨ ∃ b c E,∃ Ls:List aN,a=some ⟨b,0,none⟩/\L=(b,.cells c E)::Ls.flatten/\Ls.length=xs.length/\cap * k<=c.size/\
   ∀ i (h:i<xs.length) (h':i<Ls.length),R Ls[i] (aJ c (i * k) k) xs[i])
inductive TrT:aN->List Value->T->Prop
 | nil {k n:Int} {s:ByteArray} {a:Option Addr} {cap:Nat} (hk:inI k) (hn:inI n) (hs:s.size<=maxLen) (hc:cap<=maxLen) :
   TrT [] [.int .i64 k,.int .i64 n,.string s,.slice a 0 cap] (.mk k n s [])
 | cons {k n:Int} {s:ByteArray} {kids:List T} {b cap:Nat} {c:Array Value} {E:TypeId} {Ls:List aN} (hk:inI k) (hn:inI n) (hs:s.size<=maxLen) (hl:kids.length<=cap) (hc:cap<=maxLen)
   (hLs:Ls.length=kids.length) (hsz:cap * 4<=c.size) (h:∀ i (h:i<kids.length) (h':i<Ls.length),TrT Ls[i] (aJ c (i * 4) 4) kids[i]) :
   TrT ((b,.cells c E)::Ls.flatten) [.int .i64 k,.int .i64 n,.string s,.slice (some ⟨b,0,none⟩) kids.length cap] (.mk k n s kids)
theorem TrT.iff {L:aN} {cs:List Value} {t:T}:TrT L cs t ↔
  ∃ ks,cs=[.int .i64 t.kind,.int .i64 t.n,.string t.name,ks]/\inI t.kind/\inI t.n/\t.name.size<=maxLen/\TrSl 4 TrT L ks t.kids:=by
 constructor
 ·intro h
  cases h with
  | nil hk hn hs hc=>exact ⟨_,rfl,hk,hn,hs,_,_,rfl,Nat.zero_le _,hc,.inl ⟨rfl,rfl⟩⟩
  | cons hk hn hs hl hc hLs hsz h=>exact ⟨_,rfl,hk,hn,hs,_,_,rfl,hl,hc,.inr ⟨_,_,_,_,rfl,rfl,hLs,hsz,h⟩⟩
 ·obtain ⟨k,n,s,kids⟩:=t
  rintro ⟨ks,rfl,hk,hn,hs,a,cap,rfl,hl,hc,h⟩
  rcases h with ⟨h,rfl⟩|⟨b,c,E,Ls,rfl,rfl,hLs,hsz,h⟩
  ·simp only [T.kids] at h
   subst h
   exact TrT.nil hk hn hs hc
  ·exact TrT.cons hk hn hs hl hc hLs hsz h
theorem TrT.length {L:aN} {cs:List Value} {t:T} (h:TrT L cs t):cs.length=4:=by
 obtain ⟨ks,rfl,_⟩:=TrT.iff.1 h; rfl
theorem TrT.one {L:aN} {cs:List Value} {t:T} (h:TrT L cs t):∀ u∈cs,u.oneCell'=true:=by
 obtain ⟨ks,rfl,_,_,_,a,cap,rfl,_⟩:=TrT.iff.1 h
 intro u hu
 simp at hu
 rcases hu with rfl|rfl|rfl|rfl <;> rfl
theorem RdT.one {S:ad} {cs:List Value} {t:T} (h:RdT S cs t):∀ u∈cs,u.oneCell'=true:=by
 obtain ⟨ks,rfl,_,_,_,a,cap,rfl,_⟩:=RdT.iff.1 h
 intro u hu
 simp at hu
 rcases hu with rfl|rfl|rfl|rfl <;> rfl
theorem xR {S:ad} {Ls:List aN} (h:Ins S Ls.flatten) {i:Nat} (hi:i<Ls.length):Ins S Ls[i]:=
 fun p hp=>h p (List.mem_flatten.2 ⟨_,List.getElem_mem hi,hp⟩)
theorem TrSl.rd {α:Type} {S:ad} {k:Nat} {R:aN->List Value->α->Prop} {R':List Value->α->Prop} {L:aN} {v:Value} {xs:List α} (h:TrSl k R L v xs) (hi:Ins S L)
  (hR:∀ L cs x,Ins S L->R L cs x->R' cs x):RdSl S k R' v xs:=by
 obtain ⟨a,cap,rfl,hl,hc,h⟩:=h
 refine ⟨a,cap,rfl,hl,hc,?_⟩
 rcases h with ⟨h,_⟩|⟨b,c,E,Ls,rfl,rfl,hLs,hsz,h⟩
 ·exact .inl h
 ·refine .inr ⟨b,0,c,E,(0,0),rfl,hi _ (List.mem_cons_self ..),fun i h1=>?_⟩
  rw [Nat.zero_add]
  exact hR _ _ _ (xR (fun p hp=>hi p (List.mem_cons_of_mem _ hp)) (by omega)) (h i h1 (by omega))
theorem TrT.rd {S:ad} {L:aN} {cs:List Value} {t:T} (h:TrT L cs t) (hi:Ins S L):RdT S cs t:=by
 induction h with
 | nil hk hn hs hc=>exact RdT.nil hk hn hs hc
 | cons hk hn hs hl hc hLs hsz h ih=>
  refine RdT.cons hk hn hs hl hc (hi _ (List.mem_cons_self ..)) (o:=0) fun i h1=>?_
  rw [Nat.zero_add]
  exact ih i h1 (by omega) (xR (fun p hp=>hi p (List.mem_cons_of_mem _ hp)) (by omega))
def TrC (L:aN) (cs:List Value) (c:C):Prop:=∃ hd ks L1 L2,cs=hd++[ks]/\L=L1++L2/\TrT L1 hd c.head/\TrSl 4 TrT L2 ks c.body
theorem TrC.rd {S:ad} {L:aN} {cs:List Value} {c:C} (h:TrC L cs c) (hi:Ins S L):RdC S cs c:=by
 obtain ⟨hd,ks,L1,L2,rfl,rfl,h1,h2⟩:=h
 exact ⟨hd,ks,rfl,h1.rd hi.left,h2.rd hi.right fun _ _ _ hi h=>h.rd hi⟩
theorem TrC.length {L:aN} {cs:List Value} {c:C} (h:TrC L cs c):cs.length=5:=by
 obtain ⟨hd,ks,L1,L2,rfl,rfl,h1,h2⟩:=h; simp [h1.length]
theorem TrC.one {L:aN} {cs:List Value} {c:C} (h:TrC L cs c):∀ u∈cs,u.oneCell'=true:=by
 obtain ⟨hd,ks,L1,L2,rfl,rfl,h1,a,cap,rfl,_⟩:=h
 intro u hu
 rcases List.mem_append.1 hu with hu|hu
 ·exact h1.one u hu
 ·simp at hu; subst hu; rfl

section
variable {P:Program} {w w0:World} {X:List Nat} {L:List Item} {S:ad} {K:Value->World->Prop}
theorem Run.call0 {f:FuncId} {fn:Func} {args:List Value} {Post:Value->List Item->ad->Prop}
  (hf:P.funcs[f]?=some fn) (hn:(fn.name == "runtime.NumGoroutine" || fn.body.isNone)=false) (h:Inv w0 X L S w) (hc:Tri P f args [] S Post)
  (hk:∀ v I' S' w',Post v I' S'->Sle S S'->Inv w0 X (L++I') S' w'->K v w'):Run P (dy (.func (.func f) #[] #[]) args) w K:=
 Run.call (A:=L) (I:=[]) hf hn (by simpa using h) hc hk
theorem cn {T U ty ty' E:TypeId} {f d b:Nat} {c:Array Value} {v:Value} (hI:Inv w0 X L S w) (i:Nat) (hi:L[i]?=some (.blk b (.cells c E))) (hf:bj P T f=some d) (hU:ib P U=true) (hlt:Nat.blt d c.size=true)
  (hv:v.cells=#[v]) (h1:v.oneCell'=true)
  {K:Value->Value->World->Prop} (hk:∀ w',Inv w0 X (L.set i (.blk b (.cells (c.setIfInBounds d v) E))) S w'->K (.pointer (some ⟨b,d,none⟩)) undef w') :
  Run P (sOp (.fieldAddr T (.const (.pointer (some ⟨b,0,none⟩))) f) ty) w fun q w'=>Run P (sOp (.store U (.const q) (.const v)) ty') w' (K q):=by
 have hlt:d<c.size:=by simpa [Nat.blt_eq] using hlt
 refine aB hf ?_
 rw [Nat.zero_add]
 refine cw hI i (n:=1) (by rw [hv]; rfl) (by rw [hU]; rfl) hi (by omega) (by rw [hv]; simpa using h1) fun w' hI'=>hk w' ?_
 have:bf c d v.cells.toList=c.setIfInBounds d v:=by
  rw [hv]
  apply Array.toList_inj.1
  simp only [bf,Array.toList_setIfInBounds]
  have hl:d<c.toList.length:=by simpa using hlt
  rw [List.set_eq_take_append_cons_drop,if_pos hl]
  simp
 rw [this] at hI'
 exact hI'
theorem LX {T ty E:TypeId} {o b n:Nat} {c:Array Value} {v:Value} (hI:Inv w0 X L S w) (i:Nat) (hi:L[i]?=some (.blk b (.cells c E))) (hT:nE P T=some n) (hn:v.cells.size=n) (hfit:Nat.ble (o+n) c.size=true)
  (h1:∀ u∈v.cells.toList,u.oneCell'=true) (hk:∀ w',Inv w0 X (L.set i (.blk b (.cells (bf c o v.cells.toList) E))) S w'->K undef w') :
  Run P (sOp (.store T (.const (.pointer (some ⟨b,o,none⟩))) (.const v)) ty) w K:=
 cw hI i hn (by rw [hT]; simp) hi (Nat.le_of_ble_eq_true hfit) h1 hk
theorem av {T ty E:TypeId} {b n:Nat} {c cs:Array Value} (hI:Inv w0 X L S w) (i:Nat) (hi:L[i]?=some (.blk b (.cells c E))) (hT:nE P T=some n) (hn:cs.size=n) (hc:c.size=n)
  (h1:∀ u∈cs.toList,u.oneCell'=true) (hk:∀ w',Inv w0 X (L.set i (.blk b (.cells cs E))) S w'->K undef w') :
  Run P (sOp (.store T (.const (.pointer (some ⟨b,0,none⟩))) (.const (.agg cs))) ty) w K:=by
 refine cw hI i (v:=.agg cs) (n:=n) hn (by rw [hT]; simp) hi (by omega) h1 fun w' hI'=>hk w' ?_
 have:bf c 0 (Value.agg cs).cells.toList=cs:=by
  rw [sx _ _ (by simp [Value.cells,hn,hc])]
  simp [Value.cells]
 rw [this] at hI'
 exact hI'
end

theorem TrSl.nil {α:Type} {k:Nat} {R:aN->List Value->α->Prop} {a:Option Addr} {cap:Nat} (hc:cap<=maxLen):TrSl k R [] (.slice a 0 cap) ([]:List α):=
 ⟨a,cap,rfl,Nat.zero_le _,hc,.inl ⟨rfl,rfl⟩⟩
def Part {α:Type} (k:Nat) (R:aN->List Value->α->Prop) (c:Array Value) (Ls:List aN) (xs:List α):Prop:=
 Ls.length=xs.length/\∀ i (h:i<xs.length) (h':i<Ls.length),R Ls[i] (aJ c (i * k) k) xs[i]
theorem Part.nil {α:Type} (k:Nat) (R:aN->List Value->α->Prop) (c:Array Value):Part k R c [] ([]:List α):=⟨rfl,fun i h=>by simp at h⟩
theorem Part.snoc {α:Type} {k:Nat} {R:aN->List Value->α->Prop} {c:Array Value} {Ls:List aN} {xs:List α} (h:Part k R c Ls xs) {cs:List Value} {L:aN} {x:α} (hx:R L cs x) (hl:cs.length=k)
  (hfit:(xs.length+1) * k<=c.size):Part k R (bf c (xs.length * k) cs) (Ls++[L]) (xs++[x]):=by
 have hf:xs.length * k+cs.length<=c.size:=by rw [hl]; rw [Nat.add_mul,Nat.one_mul] at hfit; exact hfit
 refine ⟨by simp [h.1],fun i h1 h2=>?_⟩
 by_cases hi:i<xs.length
 ·have h3:i<Ls.length:=by rw [h.1]; exact hi
  rw [List.getElem_append_left h3,List.getElem_append_left hi,eI hf]
  ·exact h.2 i hi h3
  ·left
   have:(i+1) * k<=xs.length * k:=Nat.mul_le_mul_right _ hi
   rw [Nat.add_mul,Nat.one_mul] at this
   exact this
 ·have hi':i=xs.length:=by simp at h1; omega
  subst hi'
  have h3:xs.length=Ls.length:=h.1.symm
  rw [List.getElem_append_right (by omega),List.getElem_append_right (by omega)]
  simp only [h3,Nat.sub_self,List.getElem_cons_zero]
  rw [<- h3,<- hl,gJ (by rw [hl] at hf ⊢; exact hf)]
  exact hx
theorem Part.sl {α:Type} {k:Nat} {R:aN->List Value->α->Prop} {b:Nat} {c:Array Value} {E:TypeId} {Ls:List aN} {xs:List α} {cap:Nat} (h:Part k R c Ls xs) (h1:xs.length<=cap) (h2:cap<=maxLen) (h3:cap * k<=c.size) :
  TrSl k R ((b,.cells c E)::Ls.flatten) (.slice (some ⟨b,0,none⟩) xs.length cap) xs:=
 ⟨_,cap,rfl,h1,h2,.inr ⟨b,c,E,Ls,rfl,rfl,h.1,h3,h.2⟩⟩
end
section
open Go Go.RowKit
section
variable {P:Program} {w:World} {K:Value->World->Prop} {ty:TypeId}
attribute [local irreducible] Run CondV ai az
theorem hO {a:Bool} {v:Value} {A:Prop} (ht:a=true->A) (hf:a=false->K (.bool false) w):ai (.bool a) true A (Run P (sOp (.pick (.const (.bool a)) (.const v) (.const (.bool false))) ty) w K):=
 ID ht fun h=>by
  have h':a=false:=by simpa using h
  refine rb ?_
  rw [h']
  exact hf h'
theorem fj {a:Bool} {v u:Value} (ha:a=true) (hk:K v w):Run P (sOp (.pick (.const (.bool a)) (.const v) (.const u)) ty) w K:=by
 refine rb ?_
 rw [ha]
 exact hk
theorem mh {v:Value} {A:Prop} (hk:K (.bool false) w):ai (.bool false) true A (Run P (sOp (.pick (.const (.bool false)) (.const v) (.const (.bool false))) ty) w K):=
 hO (fun h=>by cases h) fun _=>hk
theorem DX {a:Bool} {v:Value} {A:Prop} (ht:a=true->K (.bool true) w) (hf:a=false->A):ai (.bool a) false A (Run P (sOp (.pick (.const (.bool a)) (.const (.bool true)) (.const v)) ty) w K):=
 ID hf fun h=>by
  have h':a=true:=by simpa using h
  refine rb ?_
  rw [h']
  exact ht h'
theorem wk {a:Bool} {v u:Value} (ha:a=false) (hk:K v w):Run P (sOp (.pick (.const (.bool a)) (.const u) (.const v)) ty) w K:=by
 refine rb ?_
 rw [ha]
 exact hk
theorem QA {v:Value} {A:Prop} (hk:K (.bool true) w):ai (.bool true) false A (Run P (sOp (.pick (.const (.bool true)) (.const (.bool true)) (.const v)) ty) w K):=
 DX (fun _=>hk) fun h=>by cases h
end

def qh (cs:List Value) (s:ByteArray):Prop:=cs=[.string s]
def lb (cs:List Value) (n:Int):Prop:=cs=[.int .i64 n]
section
variable {P:Program} {w w0:World} {X:List Nat} {L:List Item} {S:ad} {K:Value->World->Prop}
attribute [local irreducible] Run CondV ai az
theorem qV (h:Inv w0 X L S w) {s:Sem Next} {v:Nat->Value} {o:Obj} (hr:s.run P w=.ok (.value (v w.heap.size)) { w with heap:=w.heap.push o })
  (hk:∀ b w',Inv w0 X (L++[.blk b o]) S w'->K (v b) w'):Run P s w K:=Run.of hr (hk _ _ (h.alloc o))
theorem Inv.publishLast {b:Nat} {o:Obj} (h:Inv w0 X (L++[.blk b o]) S w):Inv w0 X L (lh S b o) w/\Sle S (lh S b o):=by
 have hi:(L++[Item.blk b o])[L.length]?=some (.blk b o):=by simp
 have:=h.publish hi
 rwa [show (L++[Item.blk b o]).eraseIdx L.length=L by simp [List.eraseIdx_append_of_length_le]] at this
theorem iP {α:Type} {T U ty ty' E:TypeId} {R:List Value->α->Prop} {v u:Value} {xs:List α} (hI:Inv w0 X L S w) (h:RdSl S 1 R v xs) (hu:bW P T=some (E,1)) (hU:ib P U=true)
  {i:Nat} (hi:i<xs.length) (hR:∀ cs,R cs xs[i]->cs=[u]) {K:Value->Value->World->Prop} (hk:K (elP v (i * 1)) u w) :
  Run P (sOp (.indexAddr T (.const v) (.const (.int .i64 i))) ty) w fun p w'=>Run P (sOp (.load U (.const p)) ty') w' (K p):=by
 obtain ⟨b,o,cap,c,E',fz,rfl,hS,hr⟩:=h.at_ hi
 refine aH hu hi ?_
 refine bX hU ?_ hk
 rw [hI.cellS hS]
 exact aO (hR _ hr) 0 u rfl
end
theorem RdSl.ofCells {α:Type} {S:ad} {R:List Value->α->Prop} {b n:Nat} {c:Array Value} {E:TypeId} {fz:Nat × Nat} {xs:List α} (hS:S b=some (.cells c E fz)) (hn:xs.length=n) (hm:n<=maxLen)
  (h:∀ i (h:i<xs.length),R (aJ c i 1) xs[i]):RdSl S 1 R (.slice (some ⟨b,0,none⟩) n n) xs:=by
 subst hn
 exact ⟨_,_,rfl,Nat.le_refl _,hm,.inr ⟨b,0,c,E,fz,rfl,hS,fun i hi=>by rw [Nat.zero_add,Nat.mul_one]; exact h i hi⟩⟩
end
section
open Go

def signs:List ByteArray:=[⟨#[43]⟩,⟨#[45]⟩,⟨#[42]⟩,⟨#[47,47]⟩,⟨#[61]⟩,⟨#[92,61]⟩,⟨#[61,61]⟩,⟨#[60]⟩,⟨#[62]⟩,⟨#[61,60]⟩,⟨#[62,61]⟩,⟨#[61,58,61]⟩,⟨#[46]⟩,⟨#[91,93]⟩,⟨#[33]⟩]
def oF (b:UInt8):Bool:=decide (97<=b.toNat) && decide (b.toNat<=122)
def pi (s:ByteArray):Bool:=s.data.toList.all oF
def jh (s:ByteArray):Bool:=pi s && (decide (1<=s.size) && decide (s.size<=6))
def iH (s:ByteArray):Bool:=jh s || signs.any fun x=>decide (x=s)
def emptyB:ByteArray:=⟨#[]⟩
def cX (t:T):Bool:=
 if t.kind=1 then decide (0<=t.n) && (decide (t.n<=25) && (decide (t.name=emptyB) && decide (t.kids.length=0)))
 else if t.kind=2 then decide (-999<=t.n) && (decide (t.n<=999) && (decide (t.name=emptyB) && decide (t.kids.length=0)))
 else if t.kind=3 then decide (t.n=0) && (iH t.name && decide (t.kids.length<=4))
 else false
mutual
def ff:T->Int->Bool
 | .mk k n s ks,d=>if d<1 then false else cX (.mk k n s ks) && fk ks (d - 1)
def fk:List T->Int->Bool
 | [],_=>true
 | t::ts,d=>ff t d && fk ts d
end
mutual
def di:T->Int
 | .mk _ _ _ ks=>1+cm ks
def cm:List T->Int
 | []=>0
 | t::ts=>di t+cm ts
end
mutual
def iq:T->Int->Int
 | .mk _ _ _ ks,most=>eQ ks 1 most
def eQ:List T->Int->Int->Int
 | [],n,_=>n
 | t::ts,n,most=>if n<=most then eQ ts (n+iq t (most - n)) most else n
end
def cW (t:T):Bool:=ff t 30 && decide (di t<=120)

mutual
theorem r8:∀ t:T,1<=di t
 | .mk _ _ _ ks=>by simp only [di]; have:=ey ks; omega
theorem ey:∀ ts:List T,0<=cm ts
 | []=>by simp [cm]
 | t::ts=>by simp only [cm]; have:=r8 t; have:=ey ts; omega
end
mutual
theorem ur:∀ (t:T) (most:Int),0<=most->(di t<=most->iq t most=di t)/\(most<di t->most<iq t most/\iq t most<=di t)
 | .mk _ _ _ ks,most,h=>by
  simp only [di,iq]
  have:=CF ks 1 most h (by omega)
  exact this
theorem CF:∀ (ts:List T) (n most:Int),0<=most->1<=n->(n+cm ts<=most->eQ ts n most=n+cm ts)/\(most<n+cm ts->most<eQ ts n most/\eQ ts n most<=n+cm ts)
 | [],n,most,h,h1=>by
  simp only [cm,eQ]
  exact ⟨fun _=>by omega,fun _=>by omega⟩
 | t::ts,n,most,h,h1=>by
  simp only [cm,eQ]
  have hp:=r8 t
  have hl:=ey ts
  by_cases hn:n<=most
  ·rw [if_pos hn]
   have ht:=ur t (most - n) (by omega)
   by_cases hc:di t<=most - n
   ·rw [ht.1 hc]
    have hr:=CF ts (n+di t) most h (by omega)
    exact ⟨fun h2=>by rw [hr.1 (by omega)]; omega,fun h2=>by have:=hr.2 (by omega); omega⟩
   ·have h3:=ht.2 (by omega)
    have h4:eQ ts (n+iq t (most - n)) most=n+iq t (most - n):=by
     cases ts with
     | nil=>rfl
     | cons u us=>rw [eQ,if_neg (by omega)]
    rw [h4]
    exact ⟨fun h2=>by omega,fun h2=>by omega⟩
  ·rw [if_neg hn]
   exact ⟨fun h2=>by omega,fun h2=>by omega⟩
end
theorem Ke (t:T):decide (iq t 120<=120)=decide (di t<=120):=by
 have h:=ur t 120 (by omega)
 by_cases hc:di t<=120
 ·rw [h.1 hc]
 ·have:=h.2 (by omega)
  rw [decide_eq_false (by omega),decide_eq_false hc]

mutual
def d6:T->Int->Int->Bool × Int
 | .mk k n s ks,deep,c=>
  if 120<c+1 ∨ 30<deep then (false,c+1)
  else if k=1 ∨ k=2 then (cX (.mk k n s ks),c+1)
  else if k=3 then (if cX (.mk k n s ks) then jB ks (deep+1) (c+1) else (false,c+1))
  else (false,c+1)
def jB:List T->Int->Int->Bool × Int
 | [],_,c=>(true,c)
 | t::ts,deep,c=>if (d6 t deep c).1 then jB ts deep (d6 t deep c).2 else (false,(d6 t deep c).2)
end
theorem Lt {k n:Int} {s:ByteArray} {ks:List T} (h:cX (.mk k n s ks)=true) (hk:k=1 ∨ k=2):ks=[]:=by
 unfold cX at h
 simp only [T.kind,T.n,T.name,T.kids] at h
 rcases hk with rfl|rfl <;> simp at h <;> exact h.2.2.2
theorem MC {k n:Int} {s:ByteArray} {ks:List T} (h:cX (.mk k n s ks)=true):k=1 ∨ k=2 ∨ k=3:=by
 unfold cX at h
 simp only [T.kind,T.n,T.name,T.kids] at h
 by_cases h1:k=1
 ·exact .inl h1
 ·by_cases h2:k=2
  ·exact .inr (.inl h2)
  ·by_cases h3:k=3
   ·exact .inr (.inr h3)
   ·simp [h1,h2,h3] at h
mutual
theorem zc:∀ (t:T) (deep c:Int),(d6 t deep c).1=(ff t (31 - deep) && decide (c+di t<=120))/\((d6 t deep c).1=true->(d6 t deep c).2=c+di t)
 | .mk k n s ks,deep,c=>by
  have hl:=ey ks
  rw [show di (T.mk k n s ks)=1+cm ks from rfl]
  simp only [d6,ff]
  by_cases h1:120<c+1 ∨ 30<deep
  ·rw [if_pos h1]
   refine ⟨?_,fun h=>by cases h⟩
   rcases h1 with h1|h1
   ·rw [decide_eq_false (show ¬ (c+(1+cm ks)<=120) by omega),Bool.and_false]
   ·rw [if_pos (show 31 - deep<1 by omega)]; rfl
  ·rw [if_neg h1,if_neg (show ¬ (31 - deep<1) by omega)]
   by_cases h2:k=1 ∨ k=2
   ·rw [if_pos h2]
    cases ho:cX (.mk k n s ks) with
    | false=>exact ⟨rfl,fun h=>by cases h⟩
    | true=>
     have:=Lt ho h2
     subst this
     rw [show cm []=0 from rfl]
     simp only [fk,Bool.true_and]
     exact ⟨by rw [decide_eq_true (show c+(1+0)<=120 by omega)],fun _=>by omega⟩
   ·rw [if_neg h2]
    by_cases h3:k=3
    ·rw [if_pos h3]
     cases ho:cX (.mk k n s ks) with
     | false=>exact ⟨rfl,fun h=>by cases h⟩
     | true=>
      simp only [if_true,Bool.true_and]
      have:=GB ks (deep+1) (c+1)
      rw [show 31 - (deep+1)=31 - deep - 1 by omega] at this
      rw [show c+(1+cm ks)=c+1+cm ks by omega]
      refine ⟨?_,this.2⟩
      rw [this.1]
      cases ks with
      | nil=>rw [show cm []=0 from rfl,decide_eq_true (show c+1+0<=120 by omega)]; rfl
      | cons t ts=>simp
    ·rw [if_neg h3]
     have ho:cX (.mk k n s ks)=false:=by
      rw [<- Bool.not_eq_true]
      intro h
      rcases MC h with e|e|e
      ·exact h2 (.inl e)
      ·exact h2 (.inr e)
      ·exact h3 e
     rw [ho]
     exact ⟨rfl,fun h=>by cases h⟩
theorem GB:∀ (ts:List T) (deep c:Int),(jB ts deep c).1=(fk ts (31 - deep) && (ts.isEmpty || decide (c+cm ts<=120)))/\((jB ts deep c).1=true->(jB ts deep c).2=c+cm ts)
 | [],deep,c=>by simp [jB,fk,cm]
 | t::ts,deep,c=>by
  have ht:=zc t deep c
  have hp:=ey ts
  rw [show cm (t::ts)=di t+cm ts from rfl]
  simp only [jB,fk,List.isEmpty_cons,Bool.false_or]
  cases h1:(d6 t deep c).1 with
  | false=>
   rw [h1] at ht
   have h2:=ht.1
   refine ⟨?_,fun h=>by cases h⟩
   simp only [Bool.false_eq_true,if_false]
   cases hs:ff t (31 - deep) with
   | false=>rfl
   | true=>
    rw [hs,Bool.true_and] at h2
    have:¬ (c+di t<=120):=of_decide_eq_false h2.symm
    rw [decide_eq_false (show ¬ (c+(di t+cm ts)<=120) by omega),Bool.and_false]
  | true=>
   rw [h1] at ht
   have h2:=ht.1
   have h3:=ht.2 rfl
   simp only [if_true]
   rw [h3]
   have hs:ff t (31 - deep)=true/\c+di t<=120:=by
    have:=h2.symm
    simpa using this
   have hl:=GB ts deep (c+di t)
   rw [show c+(di t+cm ts)=c+di t+cm ts by omega]
   refine ⟨?_,hl.2⟩
   rw [hl.1,hs.1,Bool.true_and]
   cases ts with
   | nil=>rw [show cm []=0 from rfl,decide_eq_true (show c+di t+0<=120 by omega)]; rfl
   | cons u us=>simp
end
theorem HE (t:T):(d6 t 1 0).1=cW t:=by
 rw [(zc t 1 0).1,cW]
 simp
end
section
open Go Go.RowKit
attribute [local irreducible] Run CondV ai az

mutual
def wT:T->Nat
 | .mk _ _ s ks=>s.size+ks.length+wL ks
def wL:List T->Nat
 | []=>0
 | t::ts=>wT t+wL ts
end
theorem iv:∀ {ts:List T} {t:T},t∈ts->wT t<=wL ts
 | x::xs,t,h=>by
  simp only [wL]
  rcases List.mem_cons.1 h with rfl|h
  ·omega
  ·have:=iv h; omega

abbrev Gw {α:Type} (k:Nat) (R:aN->List Value->α->Prop) (S:ad) (xs:List α):Value->List Item->ad->Prop:=
 fun v I' S'=>S'=S/\∃ L,I'=aV L/\TrSl k R L v xs
abbrev Ck (S:ad) (t:T):Value->List Item->ad->Prop:=fun v I' S'=>S'=S/\∃ cs L,v=.agg cs.toArray/\I'=aV L/\TrT L cs t

def wC (c:C):Nat:=wT c.head+c.body.length+wL c.body
def wP:List C->Nat
 | []=>0
 | c::cs=>wC c+wP cs
theorem DW:∀ {cs:List C} {c:C},c∈cs->wC c<=wP cs
 | x::xs,c,h=>by
  simp only [wP]
  rcases List.mem_cons.1 h with rfl|h
  ·omega
  ·have:=DW h; omega
abbrev Oq (S:ad) (c:C):Value->List Item->ad->Prop:=fun v I' S'=>S'=S/\∃ cs L,v=.agg cs.toArray/\I'=aV L/\TrC L cs c
end
section
open Go Go.RowKit
attribute [local irreducible] Run CondV ai az

theorem F3 {α:Type} (p:α->Bool) (l:List α) (k:Nat) (h:k<l.length):(l.drop k).all p=(p l[k] && (l.drop (k+1)).all p):=by
 rw [List.drop_eq_getElem_cons h,List.all_cons]
theorem MM {α:Type} (p:α->Bool) (l:List α) (k:Nat) (h:k<l.length):(l.drop k).any p=(p l[k] || (l.drop (k+1)).any p):=by
 rw [List.drop_eq_getElem_cons h,List.any_cons]
theorem kN (s:ByteArray):s.data.toList.length=s.size:=by rw [Array.length_toList]; rfl
theorem Gg (s:ByteArray) (k:Nat) (h:k<s.size):s.data.toList[k]'(by rw [kN]; exact h)=s[k]:=rfl

theorem sz (s:ByteArray) (hs:s.size<=maxLen) (S:ad):Pure Tryz.prog GY [.string s] S (.bool (jh s)):=by
 intro w hI
 simp only [maxLen] at hs
 refine wv.2 ?_
 dsimp only[wv,aD]
 refine ⟨fun i w'=>∃ k:Nat,k<=s.size/\i=.int .i64 k/\(s.data.toList.drop k).all oF=pi s/\Inv w [] [] S w',fun i _=>s.size - (intOf i).toNat,⟨0,Nat.zero_le _,rfl,rfl,hI⟩,?_⟩
 intro t3 _ _ _ _ _ _ _ _ _ _ _ _ _ _ _ _ _ w'
 rintro ⟨k,hk,rfl,hrel,hI⟩
 refine gf aF ?_
 refine bI ?_
 refine aI (fun hki=>?_) (fun hki=>?_)
 ·have hk':k<s.size:=by omega
  have hstep:=F3 oF s.data.toList k (by rw [kN]; exact hk')
  rw [Gg s k hk'] at hstep
  refine ⟨fun t w'=>t=.bool (!oF s[k])/\Inv w [] [] S w',?_,?_⟩
  ·refine jc aF hk' ?_
   refine bI ?_
   refine DX (fun h=>⟨?_,hI⟩) (fun h=>?_)
   ·have h:=of_decide_eq_true h
    rw [oF,decide_eq_false (show ¬ 97<=s[k].toNat by omega)]; rfl
   ·refine jc aF hk' ?_
    refine dB ?_
    refine wk h ⟨?_,hI⟩
    have h:=of_decide_eq_false h
    rw [oF,decide_eq_true (show 97<=s[k].toNat by omega),Bool.true_and]
    by_cases h2:s[k].toNat<=122
    ·rw [decide_eq_true h2,decide_eq_false (by omega)]; rfl
    ·rw [decide_eq_false h2,decide_eq_true (by omega)]; rfl
  intro t _ _ _ _ _ _ _ _ _ w'
  rintro ⟨rfl,hI⟩
  refine aw (fun h=>done hI ?_) (fun h=>?_)
  ·simp at h
   rw [jh,<- hrel,hstep,h]; rfl
  ·simp at h
   refine bq (by omega) ?_
   refine ⟨⟨k+1,hk',rfl,by rw [<- hrel,hstep,h]; rfl,hI⟩,by simp [intOf]; omega⟩
 ·have:k=s.size:=by omega
  subst this
  have hl:pi s=true:=by rw [<- hrel,<- kN,List.drop_length]; rfl
  refine gf aF ?_
  refine j0 ?_
  refine hO (fun h=>?_) (fun h=>done hI ?_)
  ·refine gf aF ?_
   refine dO ?_
   refine fj h (done hI ?_)
   have h:=of_decide_eq_true h
   rw [jh,hl,decide_eq_true (show 1<=s.size by omega)]
   by_cases h2:s.size<=6
   ·rw [decide_eq_true h2,decide_eq_true (by omega)]; rfl
   ·rw [decide_eq_false h2,decide_eq_false (by omega)]; rfl
  ·have h:=of_decide_eq_false h
   rw [jh,hl,decide_eq_false (show ¬ 1<=s.size by omega)]; rfl

def uT:Array Value:=(signs.map Value.string).toArray
theorem Fo {S:ad} {b:Nat} {E:TypeId} (hS:S b=some (.cells uT E)):RdSl S 1 qh (.slice (some ⟨b,0,none⟩) 15 15) signs:=by
 refine RdSl.ofCells hS rfl (by decide) ?_
 intro i hi
 have hi':i<15:=hi
 match i,hi' with
 | 0,_|1,_|2,_|3,_|4,_|5,_|6,_|7,_|8,_|9,_|10,_|11,_|12,_|13,_|14,_=>rfl
abbrev BO (S:ad):Value->List Item->ad->Prop:=fun v I' S'=>I'=[]/\Sle S S'/\RdSl S' 1 qh v signs
theorem FC {S:ad} {b n:Nat} {o:Obj} (h:n<=b) (hs:Sle S (lh S b o)):Ext n [] S (lh S b o):=
 ⟨hs,fun c o' hc=>by
  simp only [lh] at hc
  split at hc
  ·rename_i e; subst e; exact .inr (.inr h)
  ·exact .inl hc⟩
theorem qd (S:ad):Tri Tryz.prog FG [] [] S (BO S):=by
 intro w hI
 refine se.2 ?_
 dsimp only[se,j9]
 refine qV (v:=fun b=>.slice (some ⟨b,0,none⟩) 15 15) (o:=.cells uT eN) hI (by kernel_rfl) fun b w' hI=>?_
 have hnew:w.heap.size<=b:=by
  rcases hI.new b (by simp [bk,Item.foot]) with h|h
  ·simp [bk] at h
  ·exact h
 obtain ⟨h1,h2⟩:=Inv.publishLast (L:=[]) hI
 exact ⟨_,_,_,rfl,h1,FC hnew h2,rfl,h2,Fo (by simp [lh]; rfl)⟩
theorem Fm (s:ByteArray) {xs:List ByteArray} {S:ad} {v:Value} (h:RdSl S 1 qh v xs):Pure Tryz.prog Kg [v,.string s] S (.bool (xs.any fun x=>decide (x=s))):=by
 intro w hI
 have hlen:=h.le
 simp only [maxLen] at hlen
 refine z0.2 ?_
 dsimp only[z0,aX]
 refine ⟨fun i w'=>∃ k:Nat,k<=xs.length/\i=.int .i64 k/\(xs.drop k).any (fun x=>decide (x=s))=xs.any (fun x=>decide (x=s))/\Inv w [] [] S w',fun i _=>xs.length - (intOf i).toNat,⟨0,Nat.zero_le _,rfl,rfl,hI⟩,?_⟩
 intro t3 _ _ _ _ _ _ _ _ _ _ _ _ _ w'
 rintro ⟨k,hk,rfl,hrel,hI⟩
 refine aG h bF ?_
 refine bI ?_
 refine aI (fun hki=>?_) (fun hki=>?_)
 ·have hk':k<xs.length:=by omega
  have hstep:=MM (fun x=>decide (x=s)) xs k hk'
  refine iP hI h bF aL hk' (fun cs hcs=>hcs) ?_
  refine bg ?_
  refine aw (fun he=>done hI ?_) (fun he=>?_)
  ·rw [<- hrel,hstep,he]; rfl
  ·refine bq (by omega) ?_
   exact ⟨⟨k+1,hk',rfl,by rw [<- hrel,hstep,he]; rfl,hI⟩,by simp [intOf]; omega⟩
 ·have:k=xs.length:=by omega
  subst this
  exact done hI (by rw [<- hrel,List.drop_length]; rfl)
theorem gh {w w':World} {L:List Item} {S S':ad} {r r':Value} (h:Inv w [] L S' w') (hs:Sle S S') (e:r'=r):Ending.returned r'=.returned r/\Inv w [] [] S w':=⟨by rw [e],h.nil.less hs⟩
theorem vf (s:ByteArray) (hs:s.size<=maxLen) (S:ad):Pure Tryz.prog Bh [.string s] S (.bool (iH s)):=by
 intro w hI
 refine nV.2 ?_
 dsimp only[nV,aD]
 refine Run.callPure wM wn hI (sz s hs S) fun w' hI=>?_
 refine DX (fun h=>done hI ?_) (fun h=>?_)
 ·rw [iH,h]; rfl
 ·refine Run.call0 sH sU hI (qd S) fun v' I' S' w'=>?_
  rintro ⟨rfl,_,hr⟩ hle hI
  refine Run.callPure Iy Iu hI (Fm s hr) fun w' hI=>?_
  refine wk h (gh hI hle ?_)
  rw [iH,h]; rfl

theorem F1 {t:T} {S:ad} {cs:List Value} (h:RdT S cs t):Pure Tryz.prog Ky [.agg cs.toArray] S (.bool (cX t)):=by
 intro w hI
 obtain ⟨kv,rfl,_,_,hs,hks⟩:=RdT.iff.1 h
 obtain ⟨k,n,s,ks⟩:=t
 simp only [T.name,T.kids,T.kind,T.n] at hs hks ⊢
 refine yD.2 ?_
 dsimp only[yD,aD]
 refine bt hI fun b1 w' hI=>?_
 refine ae hI 0 rfl aQ aE rfl ?_
 refine aZ ?_
 refine aI (fun hk=>?_) (fun hk=>?_)
 ·have ho:cX (.mk k n s ks)=(decide (0<=n) && (decide (n<=25) && (decide (s=emptyB) && decide (ks.length=0)))):=by
   rw [cX]; exact if_pos hk
  refine ae hI 0 rfl ba aE rfl ?_
  refine j0 ?_
  refine hO (fun h1=>?_) (fun h1=>?_)
  ·refine ae hI 0 rfl ba aE rfl ?_
   refine dO ?_
   refine fj h1 ?_
   refine hO (fun h2=>?_) (fun h2=>?_)
   ·refine ae hI 0 rfl aR aL rfl ?_
    refine bg ?_
    refine fj h2 ?_
    refine hO (fun h3=>?_) (fun h3=>done hI ?_)
    ·refine ae hI 0 rfl au aj rfl ?_
     refine aG hks ah ?_
     refine aZ ?_
     refine fj h3 (done hI ?_)
     rw [ho,h1,h2,show decide (s=emptyB)=true from h3]
     simp
    ·rw [ho,h1,h2,show decide (s=emptyB)=false from h3]; rfl
   ·refine mh (done hI ?_)
    rw [ho,h1,h2]; rfl
  ·refine mh (mh (done hI ?_))
   rw [ho,h1]; rfl
 refine aZ ?_
 refine aI (fun hk2=>?_) (fun hk2=>?_)
 ·have ho:cX (.mk k n s ks)=(decide (-999<=n) && (decide (n<=999) && (decide (s=emptyB) && decide (ks.length=0)))):=by
   rw [cX]; exact (if_neg hk).trans (if_pos hk2)
  refine ae hI 0 rfl ba aE rfl ?_
  refine j0 ?_
  refine hO (fun h1=>?_) (fun h1=>?_)
  ·refine ae hI 0 rfl ba aE rfl ?_
   refine dO ?_
   refine fj h1 ?_
   refine hO (fun h2=>?_) (fun h2=>?_)
   ·refine ae hI 0 rfl aR aL rfl ?_
    refine bg ?_
    refine fj h2 ?_
    refine hO (fun h3=>?_) (fun h3=>done hI ?_)
    ·refine ae hI 0 rfl au aj rfl ?_
     refine aG hks ah ?_
     refine aZ ?_
     refine fj h3 (done hI ?_)
     rw [ho,h1,h2,show decide (s=emptyB)=true from h3]
     simp
    ·rw [ho,h1,h2,show decide (s=emptyB)=false from h3]; rfl
   ·refine mh (done hI ?_)
    rw [ho,h1,h2]; rfl
  ·refine mh (mh (done hI ?_))
   rw [ho,h1]; rfl
 refine aZ ?_
 refine aI (fun hk3=>?_) (fun hk3=>done hI ?_)
 ·have ho:cX (.mk k n s ks)=(decide (n=0) && (iH s && decide (ks.length<=4))):=by
   rw [cX]; exact (if_neg hk).trans ((if_neg hk2).trans (if_pos hk3))
  refine ae hI 0 rfl ba aE rfl ?_
  refine aZ ?_
  refine hO (fun h1=>?_) (fun h1=>?_)
  ·refine ae hI 0 rfl aR aL rfl ?_
   refine Run.callPure ym zL hI (vf s hs S) fun w' hI=>?_
   refine fj h1 ?_
   refine hO (fun h2=>?_) (fun h2=>done hI ?_)
   ·refine ae hI 0 rfl au aj rfl ?_
    refine aG hks ah ?_
    refine dO ?_
    refine fj h2 (done hI ?_)
    rw [ho,h1,h2]
    simp
    omega
   ·rw [ho,h1,h2]; rfl
  ·refine mh (done hI ?_)
   rw [ho,h1]; rfl
 ·rw [cX]
  exact congrArg Value.bool ((if_neg hk).trans ((if_neg hk2).trans (if_neg hk3))).symm

theorem AD:∀ (t:T) (S:ad) (cs:List Value) (d:Int),RdT S cs t->-1<=d->d<=1000->Pure Tryz.prog Gq [.agg cs.toArray,.int .i64 d] S (.bool (ff t d)):=by
 refine T.ind fun k n s ks ih S cs d h h0 h1=>?_
 intro w hI
 have hcs:=h
 obtain ⟨kv,rfl,_,_,hs,hks⟩:=RdT.iff.1 h
 simp only [T.name,T.kids,T.kind,T.n] at hs hks ⊢
 have hlen:=hks.le
 simp only [maxLen] at hlen
 refine tV.2 ?_
 dsimp only[tV,aX]
 refine bt hI fun b1 w' hI=>?_
 refine ⟨fun t w'=>t=.bool (decide (d<1) || !cX (.mk k n s ks))/\Inv w [] [.blk b1 (.cells #[.int .i64 k,.int .i64 n,.string s,kv] ab)] S w',?_,?_⟩
 ·refine bI ?_
  refine DX (fun h=>⟨by rw [h]; rfl,hI⟩) (fun h=>?_)
  refine aA hI 0 ac rfl rfl ?_
  refine Run.callPure IO G6 hI (F1 hcs) fun w' hI=>?_
  refine bK ?_
  exact wk h ⟨by rw [h]; rfl,hI⟩
 intro t _ _ _ _ _ _ w'
 rintro ⟨rfl,hI⟩
 refine aw (fun hb=>done hI ?_) (fun hb=>?_)
 ·rw [ff]
  by_cases hd:d<1
  ·rw [if_pos hd]
  ·rw [if_neg hd]
   simp [hd] at hb
   rw [hb]; rfl
 have hd:¬ d<1:=fun h=>by simp [h] at hb
 have ho:cX (.mk k n s ks)=true:=by simp [hd] at hb; exact hb
 refine ⟨fun i w'=>∃ j:Nat,j<=ks.length/\i=.int .i64 j/\fk (ks.drop j) (d - 1)=fk ks (d - 1)/\Inv w [] [.blk b1 (.cells #[.int .i64 k,.int .i64 n,.string s,kv] ab)] S w',
  fun i _=>ks.length - (intOf i).toNat,⟨0,Nat.zero_le _,rfl,rfl,hI⟩,?_⟩
 intro t5 _ _ _ _ _ _ _ _ _ _ _ _ _ _ _ _ _ w'
 rintro ⟨j,hj,rfl,hrel,hI⟩
 refine ae hI 0 rfl au aj rfl ?_
 refine aG hks ah ?_
 refine bI ?_
 refine aI (fun hji=>?_) (fun hji=>?_)
 ·have hj':j<ks.length:=by omega
  have hstep:fk (ks.drop j) (d - 1)=(ff ks[j] (d - 1) && fk (ks.drop (j+1)) (d - 1)):=by
   rw [List.drop_eq_getElem_cons hj',fk]
  refine ae hI 0 rfl au aj rfl ?_
  refine ci hI hks ah ac hj' (fun _ _=>RdT.length) fun cs' hcs'=>?_
  refine iw (by omega) ?_
  refine Run.callPure tI sA hI (ih _ (List.getElem_mem hj') S cs' (d - 1) hcs' (by omega) (by omega)) fun w' hI=>?_
  refine bK ?_
  refine aw (fun hne=>done hI ?_) (fun he=>?_)
  ·simp at hne
   rw [ff,if_neg hd,ho,<- hrel,hstep,hne]; rfl
  ·simp at he
   refine bq (by omega) ?_
   exact ⟨⟨j+1,hj',rfl,by rw [<- hrel,hstep,he]; rfl,hI⟩,by simp [intOf]; omega⟩
 ·have:j=ks.length:=by omega
  subst this
  refine done hI ?_
  rw [ff,if_neg hd,ho,<- hrel,List.drop_length,fk]; rfl

theorem qU:∀ (ts:List T) (j:Nat) (h:j<ts.length),cm (ts.drop j)=di ts[j]+cm (ts.drop (j+1)):=by
 intro ts j h
 rw [List.drop_eq_getElem_cons h,cm]
theorem Bf:∀ (t:T) (S:ad) (cs:List Value) (most:Int),RdT S cs t->0<=most->most<=1000->di t<=4611686018427387904->Pure Tryz.prog Gy [.agg cs.toArray,.int .i64 most] S (.int .i64 (iq t most)):=by
 refine T.ind fun k n s ks ih S cs most h h0 h1 hc=>?_
 intro w hI
 obtain ⟨kv,rfl,_,_,hs,hks⟩:=RdT.iff.1 h
 simp only [T.name,T.kids,T.kind,T.n] at hs hks ⊢
 have hlen:=hks.le
 simp only [maxLen] at hlen
 rw [show di (T.mk k n s ks)=1+cm ks from rfl] at hc
 refine s5.2 ?_
 dsimp only[s5,aX]
 refine bt hI fun b1 w' hI=>?_
 refine ⟨fun i m w'=>∃ (j:Nat) (c:Int),j<=ks.length/\i=.int .i64 j/\m=.int .i64 c/\1<=c/\c+cm (ks.drop j)<=1+cm ks/\eQ (ks.drop j) c most=eQ ks 1 most/\Inv w [] [.blk b1 (.cells #[.int .i64 k,.int .i64 n,.string s,kv] ab)] S w',
  fun i _ _=>ks.length - (intOf i).toNat,⟨0,1,Nat.zero_le _,rfl,rfl,by omega,by rw [List.drop_zero]; omega,rfl,hI⟩,?_⟩
 intro t6 _ _ t5 _ _ _ _ _ _ _ _ _ _ _ _ _ _ _ _ _ _ _ _ _ w'
 rintro ⟨j,c,hj,rfl,rfl,hc1,hc2,hrel,hI⟩
 refine ⟨fun t w'=>t=.bool (decide (j<ks.length) && decide (c<=most))/\Inv w [] [.blk b1 (.cells #[.int .i64 k,.int .i64 n,.string s,kv] ab)] S w',?_,?_⟩
 ·refine ae hI 0 rfl au aj rfl ?_
  refine aG hks ah ?_
  refine bI ?_
  refine hO (fun h=>?_) (fun h=>⟨?_,hI⟩)
  ·refine dO ?_
   refine fj h ⟨?_,hI⟩
   rw [decide_eq_true (show j<ks.length from by have:=of_decide_eq_true h; omega)]; rfl
  ·rw [decide_eq_false (show ¬ j<ks.length from by have:=of_decide_eq_false h; omega)]; rfl
 intro t _ _ _ _ _ _ _ _ _ w'
 rintro ⟨rfl,hI⟩
 refine aw (fun hb=>?_) (fun hb=>done hI ?_)
 ·simp at hb
  obtain ⟨hj',hcm⟩:=hb
  have hsp:=qU ks j hj'
  have hstep:eQ (ks.drop j) c most=eQ (ks.drop (j+1)) (c+iq ks[j] (most - c)) most:=by
   rw [List.drop_eq_getElem_cons hj',eQ,if_pos hcm]
  have hct:=ur ks[j] (most - c) (by omega)
  have hp:=r8 ks[j]
  have hlp:=ey (ks.drop (j+1))
  have hcle:1<=iq ks[j] (most - c)/\iq ks[j] (most - c)<=di ks[j]:=by
   by_cases hq:di ks[j]<=most - c
   ·rw [hct.1 hq]; omega
   ·have:=hct.2 (by omega); omega
  refine ae hI 0 rfl au aj rfl ?_
  refine ci hI hks ah ac hj' (fun _ _=>RdT.length) fun cs' hcs'=>?_
  refine iw (by omega) ?_
  refine Run.callPure tq tP hI (ih _ (List.getElem_mem hj') S cs' (most - c) hcs' (by omega) (by omega) (by omega)) fun w' hI=>?_
  refine bq (by omega) ?_
  refine bq (by omega) ?_
  exact ⟨⟨j+1,_,hj',rfl,rfl,by omega,by omega,by rw [<- hrel,hstep],hI⟩,by simp [intOf]; omega⟩
 ·show Value.int .i64 c=Value.int .i64 (eQ ks 1 most)
  rw [<- hrel]
  by_cases hj':j<ks.length
  ·simp [hj'] at hb
   rw [List.drop_eq_getElem_cons hj',eQ,if_neg (by omega)]
  ·rw [List.drop_eq_nil_of_le (by omega),eQ]

mutual
theorem Ly:∀ t:T,di t<=1+(wT t:Int)
 | .mk k n s ks=>by
  rw [show di (T.mk k n s ks)=1+cm ks from rfl,wT]
  have:=DG ks
  omega
theorem DG:∀ ts:List T,cm ts<=ts.length+(wL ts:Int)
 | []=>by simp [cm,wL]
 | t::ts=>by
  rw [show cm (t::ts)=di t+cm ts from rfl,wL,List.length_cons]
  have:=Ly t; have:=DG ts
  omega
end

theorem kY {t:T} {S:ad} {cs:List Value} (h:RdT S cs t) (hc:di t<=4611686018427387904):Pure Tryz.prog Bz [.agg cs.toArray] S (.bool (cW t)):=by
 intro w hI
 have hl:=h.length
 refine oB.2 ?_
 dsimp only[oB,aD]
 refine bt hI fun b1 w' hI=>?_
 refine aA hI 0 ac rfl (by simpa [Value.cells] using hl) ?_
 refine Run.callPure tI sA hI (AD t S cs 30 h (by omega) (by omega)) fun w' hI=>?_
 refine hO (fun h1=>?_) (fun h1=>done hI ?_)
 ·refine aA hI 0 ac rfl (by simpa [Value.cells] using hl) ?_
  refine Run.callPure tq tP hI (Bf t S cs 120 h (by omega) (by omega) hc) fun w' hI=>?_
  refine dO ?_
  refine fj h1 (done hI ?_)
  rw [cW,h1,Ke]; rfl
 ·rw [cW,h1]; rfl
end
section
open Go Go.RowKit
attribute [local irreducible] Run CondV ai az

def bT {α σ:Type} (step:σ->α->Bool × σ):σ->List α->Nat->Int × σ
 | st,[],_=>(-1,st)
 | st,x::xs,k=>if (step st x).1 then ((k:Int),(step st x).2) else bT step (step st x).2 xs (k+1)
def pR {α σ:Type} (step:σ->α->Bool × σ):σ->List α->Bool × σ
 | st,[]=>(false,st)
 | st,x::xs=>if (step st x).1 then (true,(step st x).2) else pR step (step st x).2 xs
theorem jq {α σ:Type} (step:σ->α->Bool × σ):∀ (xs:List α) (st:σ) (k:Nat),decide (0<=(bT step st xs k).1)=(pR step st xs).1/\(bT step st xs k).2=(pR step st xs).2
 | [],st,k=>by simp [bT,pR]
 | x::xs,st,k=>by
  by_cases h:(step st x).1=true
  ·simp [bT,pR,h]
  ·simpa [bT,pR,h] using jq step xs (step st x).2 (k+1)
theorem gI {α:Type} (p:α->Bool):∀ xs:List α,pR (σ:=Unit) (fun _ x=>(p x,())) () xs=(xs.any p,())
 | []=>rfl
 | x::xs=>by
  simp only [pR,List.any_cons]
  cases h:p x with
  | true=>rfl
  | false=>rw [gI p xs]; rfl
abbrev fv (f:FuncId) (cap:List Value):Value:=.func (.func f) #[] cap.toArray
section
variable {P:Program} {w w0:World} {X:List Nat} {A I:List Item} {S:ad} {K:Value->World->Prop}
theorem BV {P:Program} {f:FuncId} {fn:Func} {cap args:List Value} {w:World} (hf:P.funcs[f]?=some fn) (hn:(fn.name == "runtime.NumGoroutine" || fn.body.isNone)=false) :
  (dy (fv f cap) args).run P w=.ok (.enter f (args++cap).toArray) w:=by
 simp only [Bool.or_eq_false_iff] at hn
 have h1:¬ fn.name = "runtime.NumGoroutine" := by simpa using hn.1
 have h2:¬ fn.body=none:=fun e=>by rw [e] at hn; simp at hn
 simp [dy,Deferred.ofValue,invoke,callFunc,hf,h1,h2]
theorem Run.callV {f:FuncId} {fn:Func} {cap args:List Value} {Post:Value->List Item->ad->Prop}
  (hf:P.funcs[f]?=some fn) (hn:(fn.name == "runtime.NumGoroutine" || fn.body.isNone)=false) (h:Inv w0 X (A++I) S w) (hc:Tri P f (args++cap) I S Post)
  (hk:∀ v I' S' w',Post v I' S'->Sle S S'->Inv w0 X (A++I') S' w'->K v w'):Run P (dy (fv f cap) args) w K:=by
 unfold Run
 rw [BV hf hn]
 refine (hc w (h.sub (List.sublist_append_right A I)).begin).mono ?_
 rintro e w' ⟨v,I',S',rfl,hI,hE,hP⟩
 exact hk v I' S' w' hP hE.1 (Inv.step h hI hE.2)
end
structure Cb (P:Program) (f:FuncId) (fn:Func) {α σ:Type} (cap:List Value) (S:ad) (It:σ->List Item) (ok:σ->Prop) (step:σ->α->Bool × σ) (R:Value->α->Prop) (xs:List α):Prop where
 hf:P.funcs[f]?=some fn
 hn:(fn.name == "runtime.NumGoroutine" || fn.body.isNone)=false
 keep:∀ st x,x∈xs->ok st->(step st x).1=false->ok (step st x).2
 call:∀ st x v,x∈xs->ok st->R v x->Tri P f (v::cap) (It st) S fun r I' S'=>r=.bool (step st x).1/\I'=It (step st x).2/\S'=S
theorem Cb.pure {P:Program} {f:FuncId} {fn:Func} {α:Type} {cap:List Value} {S:ad} {p:α->Bool} {R:Value->α->Prop} {xs:List α} (L:List Item) (hf:P.funcs[f]?=some fn) (hn:(fn.name == "runtime.NumGoroutine" || fn.body.isNone)=false)
  (h:∀ x v,x∈xs->R v x->Tri P f (v::cap) L S fun r I' S'=>r=.bool (p x)/\I'=L/\S'=S):Cb P f fn cap S (fun _:Unit=>L) (fun _=>True) (fun _ x=>(p x,())) R xs:=
 ⟨hf,hn,fun _ _ _ _ _=>trivial,fun _ x v hx _ hR=>h x v hx hR⟩

theorem sG {σ:Type} {f:FuncId} {fn:Func} {cap:List Value} {S:ad} {It:σ->List Item} {ok:σ->Prop} {step:σ->T->Bool × σ} {xs:List T} {v:Value}
  (hcb:Cb Tryz.prog f fn cap S It ok step (fun v x=>∃ cs,v=.agg cs.toArray/\RdT S cs x) xs) (h:RdSl S 4 (RdT S) v xs) {st:σ} (hok:ok st) :
  Tri Tryz.prog jz [v,fv f cap] (It st) S fun r I' S'=>r=.int .i64 (bT step st xs 0).1/\I'=It (bT step st xs 0).2/\S'=S:=by
 intro w hI
 have hlen:=h.le
 simp only [maxLen] at hlen
 refine dL.2 ?_
 dsimp only[dL,aX]
 refine aG h ah ?_
 refine ⟨fun i w'=>∃ (k:Nat) (st':σ),k<=xs.length/\i=.int .i64 k/\ok st'/\bT step st' (xs.drop k) k=bT step st xs 0/\Inv w (bk (It st)) (It st') S w',fun i _=>xs.length - (intOf i).toNat,
  ⟨0,st,Nat.zero_le _,rfl,hok,rfl,hI⟩,?_⟩
 intro t8 _ _ _ _ _ _ _ _ _ _ _ _ w'
 rintro ⟨k,st',hk,rfl,hok',hrel,hI⟩
 refine bI ?_
 refine aI (fun hki=>?_) (fun hki=>?_)
 ·have hk':k<xs.length:=by omega
  have hm:=List.getElem_mem hk'
  have hstep:bT step st' (xs.drop k) k=if (step st' xs[k]).1 then ((k:Int),(step st' xs[k]).2) else bT step (step st' xs[k]).2 (xs.drop (k+1)) (k+1):=by
   rw [List.drop_eq_getElem_cons hk',bT]
  refine ci hI h ah ac hk' (fun _ _=>RdT.length) fun cs hcs=>?_
  refine Run.callV (A:=[]) (args:=[.agg cs.toArray]) hcb.hf hcb.hn (by simpa using hI) (hcb.call st' _ _ hm hok' ⟨cs,rfl,hcs⟩) fun v' I' S' w'=>?_
  rintro ⟨rfl,rfl,rfl⟩ _ hI
  refine aw (fun hb=>?_) (fun hb=>?_)
  ·rw [if_pos hb] at hstep
   refine ⟨_,_,_,rfl,by simpa using hI,Ext.refl _ _ _,?_,?_,rfl⟩
   ·rw [<- hrel,hstep]
   ·rw [<- hrel,hstep]
  ·refine bq (by omega) ?_
   rw [hb] at hstep
   refine ⟨⟨k+1,_,hk',rfl,hcb.keep st' _ hm hok' hb,?_,by simpa using hI⟩,by simp [intOf]; omega⟩
   rw [<- hrel,hstep]
   rfl
 ·have:k=xs.length:=by omega
  subst this
  rw [List.drop_length,bT] at hrel
  exact ⟨_,_,_,rfl,hI,Ext.refl _ _ _,by rw [<- hrel],by rw [<- hrel],rfl⟩
theorem eU {σ:Type} {f:FuncId} {fn:Func} {cap:List Value} {S:ad} {It:σ->List Item} {ok:σ->Prop} {step:σ->T->Bool × σ} {xs:List T} {v:Value}
  (hcb:Cb Tryz.prog f fn cap S It ok step (fun v x=>∃ cs,v=.agg cs.toArray/\RdT S cs x) xs) (h:RdSl S 4 (RdT S) v xs) {st:σ} (hok:ok st) :
  Tri Tryz.prog gy [v,fv f cap] (It st) S fun r I' S'=>r=.bool (pR step st xs).1/\I'=It (pR step st xs).2/\S'=S:=by
 intro w hI
 refine dd.2 ?_
 dsimp only[dd,aX]
 refine Run.call (A:=[]) iz iD (by simpa using hI) (sG hcb h hok) fun v' I' S' w'=>?_
 rintro ⟨rfl,rfl,rfl⟩ _ hI
 refine j0 ?_
 have he:=jq step xs st 0
 exact ⟨_,_,_,rfl,by simpa using hI,Ext.refl _ _ _,by rw [he.1],by rw [he.2],rfl⟩
theorem p5 {σ:Type} {f:FuncId} {fn:Func} {cap:List Value} {S:ad} {It:σ->List Item} {ok:σ->Prop} {step:σ->C->Bool × σ} {xs:List C} {v:Value}
  (hcb:Cb Tryz.prog f fn cap S It ok step (fun v x=>∃ cs,v=.agg cs.toArray/\RdC S cs x) xs) (h:RdSl S 5 (RdC S) v xs) {st:σ} (hok:ok st) :
  Tri Tryz.prog nT [v,fv f cap] (It st) S fun r I' S'=>r=.int .i64 (bT step st xs 0).1/\I'=It (bT step st xs 0).2/\S'=S:=by
 intro w hI
 have hlen:=h.le
 simp only [maxLen] at hlen
 refine gC.2 ?_
 dsimp only[gC,aX]
 refine aG h aP ?_
 refine ⟨fun i w'=>∃ (k:Nat) (st':σ),k<=xs.length/\i=.int .i64 k/\ok st'/\bT step st' (xs.drop k) k=bT step st xs 0/\Inv w (bk (It st)) (It st') S w',fun i _=>xs.length - (intOf i).toNat,
  ⟨0,st,Nat.zero_le _,rfl,hok,rfl,hI⟩,?_⟩
 intro t8 _ _ _ _ _ _ _ _ _ _ _ _ w'
 rintro ⟨k,st',hk,rfl,hok',hrel,hI⟩
 refine bI ?_
 refine aI (fun hki=>?_) (fun hki=>?_)
 ·have hk':k<xs.length:=by omega
  have hm:=List.getElem_mem hk'
  have hstep:bT step st' (xs.drop k) k=if (step st' xs[k]).1 then ((k:Int),(step st' xs[k]).2) else bT step (step st' xs[k]).2 (xs.drop (k+1)) (k+1):=by
   rw [List.drop_eq_getElem_cons hk',bT]
  refine ci hI h aP aY hk' (fun _ _=>RdC.length) fun cs hcs=>?_
  refine Run.callV (A:=[]) (args:=[.agg cs.toArray]) hcb.hf hcb.hn (by simpa using hI) (hcb.call st' _ _ hm hok' ⟨cs,rfl,hcs⟩) fun v' I' S' w'=>?_
  rintro ⟨rfl,rfl,rfl⟩ _ hI
  refine aw (fun hb=>?_) (fun hb=>?_)
  ·rw [if_pos hb] at hstep
   refine ⟨_,_,_,rfl,by simpa using hI,Ext.refl _ _ _,?_,?_,rfl⟩
   ·rw [<- hrel,hstep]
   ·rw [<- hrel,hstep]
  ·refine bq (by omega) ?_
   rw [hb] at hstep
   refine ⟨⟨k+1,_,hk',rfl,hcb.keep st' _ hm hok' hb,?_,by simpa using hI⟩,by simp [intOf]; omega⟩
   rw [<- hrel,hstep]
   rfl
 ·have:k=xs.length:=by omega
  subst this
  rw [List.drop_length,bT] at hrel
  exact ⟨_,_,_,rfl,hI,Ext.refl _ _ _,by rw [<- hrel],by rw [<- hrel],rfl⟩
theorem gk {σ:Type} {f:FuncId} {fn:Func} {cap:List Value} {S:ad} {It:σ->List Item} {ok:σ->Prop} {step:σ->C->Bool × σ} {xs:List C} {v:Value}
  (hcb:Cb Tryz.prog f fn cap S It ok step (fun v x=>∃ cs,v=.agg cs.toArray/\RdC S cs x) xs) (h:RdSl S 5 (RdC S) v xs) {st:σ} (hok:ok st) :
  Tri Tryz.prog kV [v,fv f cap] (It st) S fun r I' S'=>r=.bool (pR step st xs).1/\I'=It (pR step st xs).2/\S'=S:=by
 intro w hI
 refine fu.2 ?_
 dsimp only[fu,aX]
 refine Run.call (A:=[]) nu nt (by simpa using hI) (p5 hcb h hok) fun v' I' S' w'=>?_
 rintro ⟨rfl,rfl,rfl⟩ _ hI
 refine j0 ?_
 have he:=jq step xs st 0
 exact ⟨_,_,_,rfl,by simpa using hI,Ext.refl _ _ _,by rw [he.1],by rw [he.2],rfl⟩
end
end Go.Proofs.YtgllldjiaglkcaaGreatDoor
