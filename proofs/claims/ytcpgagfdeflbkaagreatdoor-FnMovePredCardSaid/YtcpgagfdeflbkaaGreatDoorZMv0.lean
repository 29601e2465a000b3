/- Data that a function has made for itself: trees of blocks that nobody else knows. -/
import Derived.Test.YtcpgagfdeflbkaaGreatDoorZMvS
import Derived.Test.YtcpgagfdeflbkaaGreatDoorZMvF
import Derived.Test.YtcpgagfdeflbkaaGreatDoorZMvgz
namespace Go.Proofs.YtcpgagfdeflbkaaGreatDoor
section
open Go Go.RowKit
attribute [local irreducible] Run CondV ao aI

abbrev aN:=List (Nat × Obj)
def aZ (L:aN):List Item:=L.map fun p=>.blk p.1 p.2
theorem cL (L M:aN):aZ (L++M)=aZ L++aZ M:=by simp [aZ]
def Ins (S:ad) (L:aN):Prop:=∀ p∈L,S p.1=some p.2
theorem Ins.mono {S S':ad} {L:aN} (h:Ins S L) (hs:Sle S S'):Ins S' L:=fun p hp=>hs _ _ (h p hp)
theorem Ins.left {S:ad} {L M:aN} (h:Ins S (L++M)):Ins S L:=fun p hp=>h p (List.mem_append_left _ hp)
theorem Ins.right {S:ad} {L M:aN} (h:Ins S (L++M)):Ins S M:=fun p hp=>h p (List.mem_append_right _ hp)
theorem fc {L:aN} {b:Nat}:b∈bp (aZ L)↔∃ p∈L,p.1=b:=by
 simp only [bp,aZ,List.mem_flatMap,List.mem_map]
 constructor
 ·rintro ⟨it,⟨p,hp,rfl⟩,hb⟩
  simp only [Item.foot,List.mem_singleton] at hb
  exact ⟨p,hp,hb.symm⟩
 ·rintro ⟨p,hp,rfl⟩
  exact ⟨_,⟨p,hp,rfl⟩,by simp [Item.foot]⟩

theorem Inv.publishAll {w0 w:World} {X:List Nat} {A:List Item}:∀ (L:aN) {S:ad},Inv w0 X (A++aZ L) S w->
  ∃ S',Inv w0 X A S' w/\Sle S S'/\Ins S' L/\∀ b o,S' b=some o->S b=some o ∨ b∈bp (aZ L)
 | [],S,h=>⟨S,by simpa [aZ] using h,Sle.refl S,by intro p hp; simp at hp,fun b o hb=>.inl hb⟩
 | p::L,S,h=>by
  have hi:(A++aZ (p::L))[A.length]?=some (.blk p.1 p.2):=by simp [aZ]
  obtain ⟨h1,h2⟩:=h.publish hi
  have he:(A++aZ (p::L)).eraseIdx A.length=A++aZ L:=by simp [aZ,List.eraseIdx_append_of_length_le]
  rw [he] at h1
  obtain ⟨S',h3,h4,h5,h6⟩:=publishAll L h1
  refine ⟨S',h3,h2.trans h4,fun q hq=>?_,fun b o hb=>?_⟩
  ·rcases List.mem_cons.1 hq with rfl|hq
   ·exact h4 _ _ (by simp [kU])
   ·exact h5 q hq
  ·rcases h6 b o hb with h7|h7
   ·simp only [kU] at h7
    split at h7
    ·rename_i e; right; rw [fc]; exact ⟨p,List.mem_cons_self ..,e.symm⟩
    ·exact .inl h7
   ·right
    obtain ⟨q,hq,e⟩:=fc.1 h7
    exact fc.2 ⟨q,List.mem_cons_of_mem _ hq,e⟩

def TrSl {α:Type} (k:Nat) (R:aN->List Value->α->Prop) (L:aN) (v:Value) (xs:List α):Prop:=
 ∃ a cap,v=.slice a xs.length cap/\xs.length<=cap/\cap<=maxLen/\
  ((xs=[]/\L=[]) ∨ ∃ b c E,∃ Ls:List aN,a=some ⟨b,0,none⟩/\L=(b,.cells c E)::Ls.flatten/\Ls.length=xs.length/\cap * k<=c.size/\
   ∀ i (h:i<xs.length) (h':i<Ls.length),R Ls[i] (aV c (i * k) k) xs[i])
inductive TrT:aN->List Value->T->Prop
 | nil {k n:Int} {s:ByteArray} {a:Option Addr} {cap:Nat} (hk:inI k) (hn:inI n) (hs:s.size<=maxLen) (hc:cap<=maxLen) :
   TrT [] [.int .i64 k,.int .i64 n,.string s,.slice a 0 cap] (.mk k n s [])
 | cons {k n:Int} {s:ByteArray} {kids:List T} {b cap:Nat} {c:Array Value} {E:TypeId} {Ls:List aN} (hk:inI k) (hn:inI n) (hs:s.size<=maxLen) (hl:kids.length<=cap) (hc:cap<=maxLen)
   (hLs:Ls.length=kids.length) (hsz:cap * 4<=c.size) (h:∀ i (h:i<kids.length) (h':i<Ls.length),TrT Ls[i] (aV c (i * 4) 4) kids[i]) :
   TrT ((b,.cells c E)::Ls.flatten) [.int .i64 k,.int .i64 n,.string s,.slice (some ⟨b,0,none⟩) kids.length cap] (.mk k n s kids)
theorem TrT.iff {L:aN} {cs:List Value} {t:T}:TrT L cs t ↔
  ∃ ks,cs=[.int .i64 t.kind,.int .i64 t.n,.string t.name,ks]/\inI t.kind/\inI t.n/\t.name.size<=maxLen/\TrSl 4 TrT L ks t.kids:=by
 constructor
 ·intro h
  cases h with
  | nil hk hn hs hc=>exact ⟨_,rfl,hk,hn,hs,_,_,rfl,Nat.zero_le _,hc,.inl ⟨rfl,rfl⟩⟩
  | cons hk hn hs hl hc hLs hsz h=>exact ⟨_,rfl,hk,hn,hs,_,_,rfl,hl,hc,.inr ⟨_,_,_,_,rfl,rfl,hLs,hsz,h⟩⟩
 ·obtain ⟨k,n,s,kids⟩:=t
  rintro ⟨ks,rfl,hk,hn,hs,a,cap,rfl,hl,hc,h⟩
  rcases h with ⟨h,rfl⟩|⟨b,c,E,Ls,rfl,rfl,hLs,hsz,h⟩
  ·simp only [T.kids] at h
   subst h
   exact TrT.nil hk hn hs hc
  ·exact TrT.cons hk hn hs hl hc hLs hsz h
theorem TrT.length {L:aN} {cs:List Value} {t:T} (h:TrT L cs t):cs.length=4:=by
 obtain ⟨ks,rfl,_⟩:=TrT.iff.1 h; rfl
theorem TrT.one {L:aN} {cs:List Value} {t:T} (h:TrT L cs t):∀ u∈cs,u.oneCell'=true:=by
 obtain ⟨ks,rfl,_,_,_,a,cap,rfl,_⟩:=TrT.iff.1 h
 intro u hu
 simp at hu
 rcases hu with rfl|rfl|rfl|rfl <;> rfl
theorem RdT.one {S:ad} {cs:List Value} {t:T} (h:RdT S cs t):∀ u∈cs,u.oneCell'=true:=by
 obtain ⟨ks,rfl,_,_,_,a,cap,rfl,_⟩:=RdT.iff.1 h
 intro u hu
 simp at hu
 rcases hu with rfl|rfl|rfl|rfl <;> rfl
theorem wM {S:ad} {Ls:List aN} (h:Ins S Ls.flatten) {i:Nat} (hi:i<Ls.length):Ins S Ls[i]:=
 fun p hp=>h p (List.mem_flatten.2 ⟨_,List.getElem_mem hi,hp⟩)
theorem TrSl.rd {α:Type} {S:ad} {k:Nat} {R:aN->List Value->α->Prop} {R':List Value->α->Prop} {L:aN} {v:Value} {xs:List α} (h:TrSl k R L v xs) (hi:Ins S L)
  (hR:∀ L cs x,Ins S L->R L cs x->R' cs x):RdSl S k R' v xs:=by
 obtain ⟨a,cap,rfl,hl,hc,h⟩:=h
 refine ⟨a,cap,rfl,hl,hc,?_⟩
 rcases h with ⟨h,_⟩|⟨b,c,E,Ls,rfl,rfl,hLs,hsz,h⟩
 ·exact .inl h
 ·refine .inr ⟨b,0,c,E,(0,0),rfl,hi _ (List.mem_cons_self ..),fun i h1=>?_⟩
  rw [Nat.zero_add]
  exact hR _ _ _ (wM (fun p hp=>hi p (List.mem_cons_of_mem _ hp)) (by omega)) (h i h1 (by omega))
theorem TrT.rd {S:ad} {L:aN} {cs:List Value} {t:T} (h:TrT L cs t) (hi:Ins S L):RdT S cs t:=by
 induction h with
 | nil hk hn hs hc=>exact RdT.nil hk hn hs hc
 | cons hk hn hs hl hc hLs hsz h ih=>
  refine RdT.cons hk hn hs hl hc (hi _ (List.mem_cons_self ..)) (o:=0) fun i h1=>?_
  rw [Nat.zero_add]
  exact ih i h1 (by omega) (wM (fun p hp=>hi p (List.mem_cons_of_mem _ hp)) (by omega))
def TrC (L:aN) (cs:List Value) (c:C):Prop:=∃ hd ks L1 L2,cs=hd++[ks]/\L=L1++L2/\TrT L1 hd c.head/\TrSl 4 TrT L2 ks c.body
theorem TrC.rd {S:ad} {L:aN} {cs:List Value} {c:C} (h:TrC L cs c) (hi:Ins S L):RdC S cs c:=by
 obtain ⟨hd,ks,L1,L2,rfl,rfl,h1,h2⟩:=h
 exact ⟨hd,ks,rfl,h1.rd hi.left,h2.rd hi.right fun _ _ _ hi h=>h.rd hi⟩
theorem TrC.length {L:aN} {cs:List Value} {c:C} (h:TrC L cs c):cs.length=5:=by
 obtain ⟨hd,ks,L1,L2,rfl,rfl,h1,h2⟩:=h; simp [h1.length]
theorem TrC.one {L:aN} {cs:List Value} {c:C} (h:TrC L cs c):∀ u∈cs,u.oneCell'=true:=by
 obtain ⟨hd,ks,L1,L2,rfl,rfl,h1,a,cap,rfl,_⟩:=h
 intro u hu
 rcases List.mem_append.1 hu with hu|hu
 ·exact h1.one u hu
 ·simp at hu; subst hu; rfl

section
variable {P:Program} {w w0:World} {X:List Nat} {L:List Item} {S:ad} {K:Value->World->Prop}
theorem Run.call0 {f:FuncId} {fn:Func} {args:List Value} {Post:Value->List Item->ad->Prop}
  (hf:P.funcs[f]?=some fn) (hn:(fn.name == "runtime.NumGoroutine" || fn.body.isNone)=false) (h:Inv w0 X L S w) (hc:Tri P f args [] S Post)
  (hk:∀ v I' S' w',Post v I' S'->Sle S S'->Inv w0 X (L++I') S' w'->K v w'):Run P (dy (.func (.func f) #[] #[]) args) w K:=
 Run.call (A:=L) (I:=[]) hf hn (by simpa using h) hc hk
theorem cq {T U ty ty' E:TypeId} {f d b:Nat} {c:Array Value} {v:Value} (hI:Inv w0 X L S w) (i:Nat) (hi:L[i]?=some (.blk b (.cells c E))) (hf:bm P T f=some d) (hU:fZ P U=true) (hlt:Nat.blt d c.size=true)
  (hv:v.cells=#[v]) (h1:v.oneCell'=true)
  {K:Value->Value->World->Prop} (hk:∀ w',Inv w0 X (L.set i (.blk b (.cells (c.setIfInBounds d v) E))) S w'->K (.pointer (some ⟨b,d,none⟩)) undef w') :
  Run P (sOp (.fieldAddr T (.const (.pointer (some ⟨b,0,none⟩))) f) ty) w fun q w'=>Run P (sOp (.store U (.const q) (.const v)) ty') w' (K q):=by
 have hlt:d<c.size:=by simpa [Nat.blt_eq] using hlt
 refine aA hf ?_
 rw [Nat.zero_add]
 refine cB hI i (n:=1) (by rw [hv]; rfl) (by rw [hU]; rfl) hi (by omega) (by rw [hv]; simpa using h1) fun w' hI'=>hk w' ?_
 have:bz c d v.cells.toList=c.setIfInBounds d v:=by
  rw [hv]
  apply Array.toList_inj.1
  simp only [bz,Array.toList_setIfInBounds]
  have hl:d<c.toList.length:=by simpa using hlt
  rw [List.set_eq_take_append_cons_drop,if_pos hl]
  simp
 rw [this] at hI'
 exact hI'
theorem KY {T ty E:TypeId} {o b n:Nat} {c:Array Value} {v:Value} (hI:Inv w0 X L S w) (i:Nat) (hi:L[i]?=some (.blk b (.cells c E))) (hT:o7 P T=some n) (hn:v.cells.size=n) (hfit:Nat.ble (o+n) c.size=true)
  (h1:∀ u∈v.cells.toList,u.oneCell'=true) (hk:∀ w',Inv w0 X (L.set i (.blk b (.cells (bz c o v.cells.toList) E))) S w'->K undef w') :
  Run P (sOp (.store T (.const (.pointer (some ⟨b,o,none⟩))) (.const v)) ty) w K:=
 cB hI i hn (by rw [hT]; simp) hi (Nat.le_of_ble_eq_true hfit) h1 hk
theorem au {T ty E:TypeId} {b n:Nat} {c cs:Array Value} (hI:Inv w0 X L S w) (i:Nat) (hi:L[i]?=some (.blk b (.cells c E))) (hT:o7 P T=some n) (hn:cs.size=n) (hc:c.size=n)
  (h1:∀ u∈cs.toList,u.oneCell'=true) (hk:∀ w',Inv w0 X (L.set i (.blk b (.cells cs E))) S w'->K undef w') :
  Run P (sOp (.store T (.const (.pointer (some ⟨b,0,none⟩))) (.const (.agg cs))) ty) w K:=by
 refine cB hI i (v:=.agg cs) (n:=n) hn (by rw [hT]; simp) hi (by omega) h1 fun w' hI'=>hk w' ?_
 have:bz c 0 (Value.agg cs).cells.toList=cs:=by
  rw [rM _ _ (by simp [Value.cells,hn,hc])]
  simp [Value.cells]
 rw [this] at hI'
 exact hI'
end

theorem TrSl.nil {α:Type} {k:Nat} {R:aN->List Value->α->Prop} {a:Option Addr} {cap:Nat} (hc:cap<=maxLen):TrSl k R [] (.slice a 0 cap) ([]:List α):=
 ⟨a,cap,rfl,Nat.zero_le _,hc,.inl ⟨rfl,rfl⟩⟩
def Part {α:Type} (k:Nat) (R:aN->List Value->α->Prop) (c:Array Value) (Ls:List aN) (xs:List α):Prop:=
 Ls.length=xs.length/\∀ i (h:i<xs.length) (h':i<Ls.length),R Ls[i] (aV c (i * k) k) xs[i]
theorem Part.nil {α:Type} (k:Nat) (R:aN->List Value->α->Prop) (c:Array Value):Part k R c [] ([]:List α):=⟨rfl,fun i h=>by simp at h⟩
theorem Part.snoc {α:Type} {k:Nat} {R:aN->List Value->α->Prop} {c:Array Value} {Ls:List aN} {xs:List α} (h:Part k R c Ls xs) {cs:List Value} {L:aN} {x:α} (hx:R L cs x) (hl:cs.length=k)
  (hfit:(xs.length+1) * k<=c.size):Part k R (bz c (xs.length * k) cs) (Ls++[L]) (xs++[x]):=by
 have hf:xs.length * k+cs.length<=c.size:=by rw [hl]; rw [Nat.add_mul,Nat.one_mul] at hfit; exact hfit
 refine ⟨by simp [h.1],fun i h1 h2=>?_⟩
 by_cases hi:i<xs.length
 ·have h3:i<Ls.length:=by rw [h.1]; exact hi
  rw [List.getElem_append_left h3,List.getElem_append_left hi,iM hf]
  ·exact h.2 i hi h3
  ·left
   have:(i+1) * k<=xs.length * k:=Nat.mul_le_mul_right _ hi
   rw [Nat.add_mul,Nat.one_mul] at this
   exact this
 ·have hi':i=xs.length:=by simp at h1; omega
  subst hi'
  have h3:xs.length=Ls.length:=h.1.symm
  rw [List.getElem_append_right (by omega),List.getElem_append_right (by omega)]
  simp only [h3,Nat.sub_self,List.getElem_cons_zero]
  rw [<- h3,<- hl,gf (by rw [hl] at hf ⊢; exact hf)]
  exact hx
theorem Part.sl {α:Type} {k:Nat} {R:aN->List Value->α->Prop} {b:Nat} {c:Array Value} {E:TypeId} {Ls:List aN} {xs:List α} {cap:Nat} (h:Part k R c Ls xs) (h1:xs.length<=cap) (h2:cap<=maxLen) (h3:cap * k<=c.size) :
  TrSl k R ((b,.cells c E)::Ls.flatten) (.slice (some ⟨b,0,none⟩) xs.length cap) xs:=
 ⟨_,cap,rfl,h1,h2,.inr ⟨b,c,E,Ls,rfl,rfl,h.1,h3,h.2⟩⟩
end
section
open Go Go.RowKit
section
variable {P:Program} {w:World} {K:Value->World->Prop} {ty:TypeId}
attribute [local irreducible] Run CondV ao aI
theorem gw {a:Bool} {v:Value} {A:Prop} (ht:a=true->A) (hf:a=false->K (.bool false) w):ao (.bool a) true A (Run P (sOp (.pick (.const (.bool a)) (.const v) (.const (.bool false))) ty) w K):=
 Hg ht fun h=>by
  have h':a=false:=by simpa using h
  refine qq ?_
  rw [h']
  exact hf h'
theorem eV {a:Bool} {v u:Value} (ha:a=true) (hk:K v w):Run P (sOp (.pick (.const (.bool a)) (.const v) (.const u)) ty) w K:=by
 refine qq ?_
 rw [ha]
 exact hk
theorem lP {v:Value} {A:Prop} (hk:K (.bool false) w):ao (.bool false) true A (Run P (sOp (.pick (.const (.bool false)) (.const v) (.const (.bool false))) ty) w K):=
 gw (fun h=>by cases h) fun _=>hk
theorem Cn {a:Bool} {v:Value} {A:Prop} (ht:a=true->K (.bool true) w) (hf:a=false->A):ao (.bool a) false A (Run P (sOp (.pick (.const (.bool a)) (.const (.bool true)) (.const v)) ty) w K):=
 Hg hf fun h=>by
  have h':a=true:=by simpa using h
  refine qq ?_
  rw [h']
  exact ht h'
theorem u6 {a:Bool} {v u:Value} (ha:a=false) (hk:K v w):Run P (sOp (.pick (.const (.bool a)) (.const u) (.const v)) ty) w K:=by
 refine qq ?_
 rw [ha]
 exact hk
theorem Oj {v:Value} {A:Prop} (hk:K (.bool true) w):ao (.bool true) false A (Run P (sOp (.pick (.const (.bool true)) (.const (.bool true)) (.const v)) ty) w K):=
 Cn (fun _=>hk) fun h=>by cases h
end

def l4 (cs:List Value) (s:ByteArray):Prop:=cs=[.string s]
def jW (cs:List Value) (n:Int):Prop:=cs=[.int .i64 n]
section
variable {P:Program} {w w0:World} {X:List Nat} {L:List Item} {S:ad} {K:Value->World->Prop}
attribute [local irreducible] Run CondV ao aI
theorem oF (h:Inv w0 X L S w) {s:Sem Next} {v:Nat->Value} {o:Obj} (hr:s.run P w=.ok (.value (v w.heap.size)) { w with heap:=w.heap.push o })
  (hk:∀ b w',Inv w0 X (L++[.blk b o]) S w'->K (v b) w'):Run P s w K:=Run.of hr (hk _ _ (h.alloc o))
theorem Inv.publishLast {b:Nat} {o:Obj} (h:Inv w0 X (L++[.blk b o]) S w):Inv w0 X L (kU S b o) w/\Sle S (kU S b o):=by
 have hi:(L++[Item.blk b o])[L.length]?=some (.blk b o):=by simp
 have:=h.publish hi
 rwa [show (L++[Item.blk b o]).eraseIdx L.length=L by simp [List.eraseIdx_append_of_length_le]] at this
theorem gn {α:Type} {T U ty ty' E:TypeId} {R:List Value->α->Prop} {v u:Value} {xs:List α} (hI:Inv w0 X L S w) (h:RdSl S 1 R v xs) (hu:bX P T=some (E,1)) (hU:fZ P U=true)
  {i:Nat} (hi:i<xs.length) (hR:∀ cs,R cs xs[i]->cs=[u]) {K:Value->Value->World->Prop} (hk:K (elP v (i * 1)) u w) :
  Run P (sOp (.indexAddr T (.const v) (.const (.int .i64 i))) ty) w fun p w'=>Run P (sOp (.load U (.const p)) ty') w' (K p):=by
 obtain ⟨b,o,cap,c,E',fz,rfl,hS,hr⟩:=h.at_ hi
 refine aE hu hi ?_
 refine bW hU ?_ hk
 rw [hI.cellS hS]
 exact aJ (hR _ hr) 0 u rfl
end
theorem RdSl.ofCells {α:Type} {S:ad} {R:List Value->α->Prop} {b n:Nat} {c:Array Value} {E:TypeId} {fz:Nat × Nat} {xs:List α} (hS:S b=some (.cells c E fz)) (hn:xs.length=n) (hm:n<=maxLen)
  (h:∀ i (h:i<xs.length),R (aV c i 1) xs[i]):RdSl S 1 R (.slice (some ⟨b,0,none⟩) n n) xs:=by
 subst hn
 exact ⟨_,_,rfl,Nat.le_refl _,hm,.inr ⟨b,0,c,E,fz,rfl,hS,fun i hi=>by rw [Nat.zero_add,Nat.mul_one]; exact h i hi⟩⟩
end
section
open Go

def signs:List ByteArray:=[⟨#[43]⟩,⟨#[45]⟩,⟨#[42]⟩,⟨#[47,47]⟩,⟨#[61]⟩,⟨#[92,61]⟩,⟨#[61,61]⟩,⟨#[60]⟩,⟨#[62]⟩,⟨#[61,60]⟩,⟨#[62,61]⟩,⟨#[61,58,61]⟩,⟨#[46]⟩,⟨#[91,93]⟩,⟨#[33]⟩]
def n5 (b:UInt8):Bool:=decide (97<=b.toNat) && decide (b.toNat<=122)
def nG (s:ByteArray):Bool:=s.data.toList.all n5
def jt (s:ByteArray):Bool:=nG s && (decide (1<=s.size) && decide (s.size<=6))
def i5 (s:ByteArray):Bool:=jt s || signs.any fun x=>decide (x=s)
def emptyB:ByteArray:=⟨#[]⟩
def dH (t:T):Bool:=
 if t.kind=1 then decide (0<=t.n) && (decide (t.n<=25) && (decide (t.name=emptyB) && decide (t.kids.length=0)))
 else if t.kind=2 then decide (-999<=t.n) && (decide (t.n<=999) && (decide (t.name=emptyB) && decide (t.kids.length=0)))
 else if t.kind=3 then decide (t.n=0) && (i5 t.name && decide (t.kids.length<=4))
 else false
mutual
def eU:T->Int->Bool
 | .mk k n s ks,d=>if d<1 then false else dH (.mk k n s ks) && eT ks (d - 1)
def eT:List T->Int->Bool
 | [],_=>true
 | t::ts,d=>eU t d && eT ts d
end
mutual
def dk:T->Int
 | .mk _ _ _ ks=>1+co ks
def co:List T->Int
 | []=>0
 | t::ts=>dk t+co ts
end
mutual
def gK:T->Int->Int
 | .mk _ _ _ ks,most=>eE ks 1 most
def eE:List T->Int->Int->Int
 | [],n,_=>n
 | t::ts,n,most=>if n<=most then eE ts (n+gK t (most - n)) most else n
end
def cZ (t:T):Bool:=eU t 30 && decide (dk t<=120)

mutual
theorem rr:∀ t:T,1<=dk t
 | .mk _ _ _ ks=>by simp only [dk]; have:=d3 ks; omega
theorem d3:∀ ts:List T,0<=co ts
 | []=>by simp [co]
 | t::ts=>by simp only [co]; have:=rr t; have:=d3 ts; omega
end
mutual
theorem te:∀ (t:T) (most:Int),0<=most->(dk t<=most->gK t most=dk t)/\(most<dk t->most<gK t most/\gK t most<=dk t)
 | .mk _ _ _ ks,most,h=>by
  simp only [dk,gK]
  have:=AA ks 1 most h (by omega)
  exact this
theorem AA:∀ (ts:List T) (n most:Int),0<=most->1<=n->(n+co ts<=most->eE ts n most=n+co ts)/\(most<n+co ts->most<eE ts n most/\eE ts n most<=n+co ts)
 | [],n,most,h,h1=>by
  simp only [co,eE]
  exact ⟨fun _=>by omega,fun _=>by omega⟩
 | t::ts,n,most,h,h1=>by
  simp only [co,eE]
  have hp:=rr t
  have hl:=d3 ts
  by_cases hn:n<=most
  ·rw [if_pos hn]
   have ht:=te t (most - n) (by omega)
   by_cases hc:dk t<=most - n
   ·rw [ht.1 hc]
    have hr:=AA ts (n+dk t) most h (by omega)
    exact ⟨fun h2=>by rw [hr.1 (by omega)]; omega,fun h2=>by have:=hr.2 (by omega); omega⟩
   ·have h3:=ht.2 (by omega)
    have h4:eE ts (n+gK t (most - n)) most=n+gK t (most - n):=by
     cases ts with
     | nil=>rfl
     | cons u us=>rw [eE,if_neg (by omega)]
    rw [h4]
    exact ⟨fun h2=>by omega,fun h2=>by omega⟩
  ·rw [if_neg hn]
   exact ⟨fun h2=>by omega,fun h2=>by omega⟩
end
theorem Ja (t:T):decide (gK t 120<=120)=decide (dk t<=120):=by
 have h:=te t 120 (by omega)
 by_cases hc:dk t<=120
 ·rw [h.1 hc]
 ·have:=h.2 (by omega)
  rw [decide_eq_false (by omega),decide_eq_false hc]

mutual
def dP:T->Int->Int->Bool × Int
 | .mk k n s ks,deep,c=>
  if 120<c+1 ∨ 30<deep then (false,c+1)
  else if k=1 ∨ k=2 then (dH (.mk k n s ks),c+1)
  else if k=3 then (if dH (.mk k n s ks) then iO ks (deep+1) (c+1) else (false,c+1))
  else (false,c+1)
def iO:List T->Int->Int->Bool × Int
 | [],_,c=>(true,c)
 | t::ts,deep,c=>if (dP t deep c).1 then iO ts deep (dP t deep c).2 else (false,(dP t deep c).2)
end
theorem Kc {k n:Int} {s:ByteArray} {ks:List T} (h:dH (.mk k n s ks)=true) (hk:k=1 ∨ k=2):ks=[]:=by
 unfold dH at h
 simp only [T.kind,T.n,T.name,T.kids] at h
 rcases hk with rfl|rfl <;> simp at h <;> exact h.2.2.2
theorem KI {k n:Int} {s:ByteArray} {ks:List T} (h:dH (.mk k n s ks)=true):k=1 ∨ k=2 ∨ k=3:=by
 unfold dH at h
 simp only [T.kind,T.n,T.name,T.kids] at h
 by_cases h1:k=1
 ·exact .inl h1
 ·by_cases h2:k=2
  ·exact .inr (.inl h2)
  ·by_cases h3:k=3
   ·exact .inr (.inr h3)
   ·simp [h1,h2,h3] at h
mutual
theorem xG:∀ (t:T) (deep c:Int),(dP t deep c).1=(eU t (31 - deep) && decide (c+dk t<=120))/\((dP t deep c).1=true->(dP t deep c).2=c+dk t)
 | .mk k n s ks,deep,c=>by
  have hl:=d3 ks
  rw [show dk (T.mk k n s ks)=1+co ks from rfl]
  simp only [dP,eU]
  by_cases h1:120<c+1 ∨ 30<deep
  ·rw [if_pos h1]
   refine ⟨?_,fun h=>by cases h⟩
   rcases h1 with h1|h1
   ·rw [decide_eq_false (show ¬ (c+(1+co ks)<=120) by omega),Bool.and_false]
   ·rw [if_pos (show 31 - deep<1 by omega)]; rfl
  ·rw [if_neg h1,if_neg (show ¬ (31 - deep<1) by omega)]
   by_cases h2:k=1 ∨ k=2
   ·rw [if_pos h2]
    cases ho:dH (.mk k n s ks) with
    | false=>exact ⟨rfl,fun h=>by cases h⟩
    | true=>
     have:=Kc ho h2
     subst this
     rw [show co []=0 from rfl]
     simp only [eT,Bool.true_and]
     exact ⟨by rw [decide_eq_true (show c+(1+0)<=120 by omega)],fun _=>by omega⟩
   ·rw [if_neg h2]
    by_cases h3:k=3
    ·rw [if_pos h3]
     cases ho:dH (.mk k n s ks) with
     | false=>exact ⟨rfl,fun h=>by cases h⟩
     | true=>
      simp only [if_true,Bool.true_and]
      have:=DO ks (deep+1) (c+1)
      rw [show 31 - (deep+1)=31 - deep - 1 by omega] at this
      rw [show c+(1+co ks)=c+1+co ks by omega]
      refine ⟨?_,this.2⟩
      rw [this.1]
      cases ks with
      | nil=>rw [show co []=0 from rfl,decide_eq_true (show c+1+0<=120 by omega)]; rfl
      | cons t ts=>simp
    ·rw [if_neg h3]
     have ho:dH (.mk k n s ks)=false:=by
      rw [<- Bool.not_eq_true]
      intro h
      rcases KI h with e|e|e
      ·exact h2 (.inl e)
      ·exact h2 (.inr e)
      ·exact h3 e
     rw [ho]
     exact ⟨rfl,fun h=>by cases h⟩
theorem DO:∀ (ts:List T) (deep c:Int),(iO ts deep c).1=(eT ts (31 - deep) && (ts.isEmpty || decide (c+co ts<=120)))/\((iO ts deep c).1=true->(iO ts deep c).2=c+co ts)
 | [],deep,c=>by simp [iO,eT,co]
 | t::ts,deep,c=>by
  have ht:=xG t deep c
  have hp:=d3 ts
  rw [show co (t::ts)=dk t+co ts from rfl]
  simp only [iO,eT,List.isEmpty_cons,Bool.false_or]
  cases h1:(dP t deep c).1 with
  | false=>
   rw [h1] at ht
   have h2:=ht.1
   refine ⟨?_,fun h=>by cases h⟩
   simp only [Bool.false_eq_true,if_false]
   cases hs:eU t (31 - deep) with
   | false=>rfl
   | true=>
    rw [hs,Bool.true_and] at h2
    have:¬ (c+dk t<=120):=of_decide_eq_false h2.symm
    rw [decide_eq_false (show ¬ (c+(dk t+co ts)<=120) by omega),Bool.and_false]
  | true=>
   rw [h1] at ht
   have h2:=ht.1
   have h3:=ht.2 rfl
   simp only [if_true]
   rw [h3]
   have hs:eU t (31 - deep)=true/\c+dk t<=120:=by
    have:=h2.symm
    simpa using this
   have hl:=DO ts deep (c+dk t)
   rw [show c+(dk t+co ts)=c+dk t+co ts by omega]
   refine ⟨?_,hl.2⟩
   rw [hl.1,hs.1,Bool.true_and]
   cases ts with
   | nil=>rw [show co []=0 from rfl,decide_eq_true (show c+dk t+0<=120 by omega)]; rfl
   | cons u us=>simp
end
theorem GD (t:T):(dP t 1 0).1=cZ t:=by
 rw [(xG t 1 0).1,cZ]
 simp
end
section
open Go Go.RowKit
attribute [local irreducible] Run CondV ao aI

mutual
def wT:T->Nat
 | .mk _ _ s ks=>s.size+ks.length+wL ks
def wL:List T->Nat
 | []=>0
 | t::ts=>wT t+wL ts
end
theorem gO:∀ {ts:List T} {t:T},t∈ts->wT t<=wL ts
 | x::xs,t,h=>by
  simp only [wL]
  rcases List.mem_cons.1 h with rfl|h
  ·omega
  ·have:=gO h; omega

abbrev EZ {α:Type} (k:Nat) (R:aN->List Value->α->Prop) (S:ad) (xs:List α):Value->List Item->ad->Prop:=
 fun v I' S'=>S'=S/\∃ L,I'=aZ L/\TrSl k R L v xs
abbrev Bk (S:ad) (t:T):Value->List Item->ad->Prop:=fun v I' S'=>S'=S/\∃ cs L,v=.agg cs.toArray/\I'=aZ L/\TrT L cs t

def wC (c:C):Nat:=wT c.head+c.body.length+wL c.body
def wP:List C->Nat
 | []=>0
 | c::cs=>wC c+wP cs
theorem Dd:∀ {cs:List C} {c:C},c∈cs->wC c<=wP cs
 | x::xs,c,h=>by
  simp only [wP]
  rcases List.mem_cons.1 h with rfl|h
  ·omega
  ·have:=Dd h; omega
abbrev MT (S:ad) (c:C):Value->List Item->ad->Prop:=fun v I' S'=>S'=S/\∃ cs L,v=.agg cs.toArray/\I'=aZ L/\TrC L cs c
end
section
open Go Go.RowKit
attribute [local irreducible] Run CondV ao aI

theorem FF {α:Type} (p:α->Bool) (l:List α) (k:Nat) (h:k<l.length):(l.drop k).all p=(p l[k] && (l.drop (k+1)).all p):=by
 rw [List.drop_eq_getElem_cons h,List.all_cons]
theorem DP {α:Type} (p:α->Bool) (l:List α) (k:Nat) (h:k<l.length):(l.drop k).any p=(p l[k] || (l.drop (k+1)).any p):=by
 rw [List.drop_eq_getElem_cons h,List.any_cons]
theorem lm (s:ByteArray):s.data.toList.length=s.size:=by rw [Array.length_toList]; rfl
theorem DV (s:ByteArray) (k:Nat) (h:k<s.size):s.data.toList[k]'(by rw [lm]; exact h)=s[k]:=rfl

theorem qB (s:ByteArray) (hs:s.size<=maxLen) (S:ad):Pure Tryz.prog GN [.string s] S (.bool (jt s)):=by
 intro w hI
 simp only [maxLen] at hs
 refine uK.2 ?_
 dsimp only[uK,aC]
 refine ⟨fun i w'=>∃ k:Nat,k<=s.size/\i=.int .i64 k/\(s.data.toList.drop k).all n5=nG s/\Inv w [] [] S w',fun i _=>s.size - (intOf i).toNat,⟨0,Nat.zero_le _,rfl,rfl,hI⟩,?_⟩
 intro t3 _ _ _ _ _ _ _ _ _ _ _ _ _ _ _ _ _ w'
 rintro ⟨k,hk,rfl,hrel,hI⟩
 refine fO aG ?_
 refine bC ?_
 refine aH (fun hki=>?_) (fun hki=>?_)
 ·have hk':k<s.size:=by omega
  have hstep:=FF n5 s.data.toList k (by rw [lm]; exact hk')
  rw [DV s k hk'] at hstep
  refine ⟨fun t w'=>t=.bool (!n5 s[k])/\Inv w [] [] S w',?_,?_⟩
  ·refine iP aG hk' ?_
   refine bC ?_
   refine Cn (fun h=>⟨?_,hI⟩) (fun h=>?_)
   ·have h:=of_decide_eq_true h
    rw [n5,decide_eq_false (show ¬ 97<=s[k].toNat by omega)]; rfl
   ·refine iP aG hk' ?_
    refine dK ?_
    refine u6 h ⟨?_,hI⟩
    have h:=of_decide_eq_false h
    rw [n5,decide_eq_true (show 97<=s[k].toNat by omega),Bool.true_and]
    by_cases h2:s[k].toNat<=122
    ·rw [decide_eq_true h2,decide_eq_false (by omega)]; rfl
    ·rw [decide_eq_false h2,decide_eq_true (by omega)]; rfl
  intro t _ _ _ _ _ _ _ _ _ w'
  rintro ⟨rfl,hI⟩
  refine av (fun h=>done hI ?_) (fun h=>?_)
  ·simp at h
   rw [jt,<- hrel,hstep,h]; rfl
  ·simp at h
   refine bi (by omega) ?_
   refine ⟨⟨k+1,hk',rfl,by rw [<- hrel,hstep,h]; rfl,hI⟩,by simp [intOf]; omega⟩
 ·have:k=s.size:=by omega
  subst this
  have hl:nG s=true:=by rw [<- hrel,<- lm,List.drop_length]; rfl
  refine fO aG ?_
  refine li ?_
  refine gw (fun h=>?_) (fun h=>done hI ?_)
  ·refine fO aG ?_
   refine dI ?_
   refine eV h (done hI ?_)
   have h:=of_decide_eq_true h
   rw [jt,hl,decide_eq_true (show 1<=s.size by omega)]
   by_cases h2:s.size<=6
   ·rw [decide_eq_true h2,decide_eq_true (by omega)]; rfl
   ·rw [decide_eq_false h2,decide_eq_false (by omega)]; rfl
  ·have h:=of_decide_eq_false h
   rw [jt,hl,decide_eq_false (show ¬ 1<=s.size by omega)]; rfl

def tR:Array Value:=(signs.map Value.string).toArray
theorem Ep {S:ad} {b:Nat} {E:TypeId} (hS:S b=some (.cells tR E)):RdSl S 1 l4 (.slice (some ⟨b,0,none⟩) 15 15) signs:=by
 refine RdSl.ofCells hS rfl (by decide) ?_
 intro i hi
 have hi':i<15:=hi
 match i,hi' with
 | 0,_|1,_|2,_|3,_|4,_|5,_|6,_|7,_|8,_|9,_|10,_|11,_|12,_|13,_|14,_=>rfl
abbrev Br (S:ad):Value->List Item->ad->Prop:=fun v I' S'=>I'=[]/\Sle S S'/\RdSl S' 1 l4 v signs
theorem DB {S:ad} {b n:Nat} {o:Obj} (h:n<=b) (hs:Sle S (kU S b o)):Ext n [] S (kU S b o):=
 ⟨hs,fun c o' hc=>by
  simp only [kU] at hc
  split at hc
  ·rename_i e; subst e; exact .inr (.inr h)
  ·exact .inl hc⟩
theorem pl (S:ad):Tri Tryz.prog Ec [] [] S (Br S):=by
 intro w hI
 refine rH.2 ?_
 dsimp only[rH,l8]
 refine oF (v:=fun b=>.slice (some ⟨b,0,none⟩) 15 15) (o:=.cells tR eG) hI (by kernel_rfl) fun b w' hI=>?_
 have hnew:w.heap.size<=b:=by
  rcases hI.new b (by simp [bp,Item.foot]) with h|h
  ·simp [bp] at h
  ·exact h
 obtain ⟨h1,h2⟩:=Inv.publishLast (L:=[]) hI
 exact ⟨_,_,_,rfl,h1,DB hnew h2,rfl,h2,Ep (by simp [kU]; rfl)⟩
theorem DE (s:ByteArray) {xs:List ByteArray} {S:ad} {v:Value} (h:RdSl S 1 l4 v xs):Pure Tryz.prog I0 [v,.string s] S (.bool (xs.any fun x=>decide (x=s))):=by
 intro w hI
 have hlen:=h.le
 simp only [maxLen] at hlen
 refine xt.2 ?_
 dsimp only[xt,aR]
 refine ⟨fun i w'=>∃ k:Nat,k<=xs.length/\i=.int .i64 k/\(xs.drop k).any (fun x=>decide (x=s))=xs.any (fun x=>decide (x=s))/\Inv w [] [] S w',fun i _=>xs.length - (intOf i).toNat,⟨0,Nat.zero_le _,rfl,rfl,hI⟩,?_⟩
 intro t3 _ _ _ _ _ _ _ _ _ _ _ _ _ w'
 rintro ⟨k,hk,rfl,hrel,hI⟩
 refine aD h bw ?_
 refine bC ?_
 refine aH (fun hki=>?_) (fun hki=>?_)
 ·have hk':k<xs.length:=by omega
  have hstep:=DP (fun x=>decide (x=s)) xs k hk'
  refine gn hI h bw aK hk' (fun cs hcs=>hcs) ?_
  refine bj ?_
  refine av (fun he=>done hI ?_) (fun he=>?_)
  ·rw [<- hrel,hstep,he]; rfl
  ·refine bi (by omega) ?_
   exact ⟨⟨k+1,hk',rfl,by rw [<- hrel,hstep,he]; rfl,hI⟩,by simp [intOf]; omega⟩
 ·have:k=xs.length:=by omega
  subst this
  exact done hI (by rw [<- hrel,List.drop_length]; rfl)
theorem iy {w w':World} {L:List Item} {S S':ad} {r r':Value} (h:Inv w [] L S' w') (hs:Sle S S') (e:r'=r):Ending.returned r'=.returned r/\Inv w [] [] S w':=⟨by rw [e],h.nil.less hs⟩
theorem tP (s:ByteArray) (hs:s.size<=maxLen) (S:ad):Pure Tryz.prog Ar [.string s] S (.bool (i5 s)):=by
 intro w hI
 refine mT.2 ?_
 dsimp only[mT,aC]
 refine Run.callPure vD vM hI (qB s hs S) fun w' hI=>?_
 refine Cn (fun h=>done hI ?_) (fun h=>?_)
 ·rw [i5,h]; rfl
 ·refine Run.call0 sP rj hI (pl S) fun v' I' S' w'=>?_
  rintro ⟨rfl,_,hr⟩ hle hI
  refine Run.callPure Gl Hx hI (DE s hr) fun w' hI=>?_
  refine u6 h (iy hI hle ?_)
  rw [i5,h]; rfl

theorem Fu {t:T} {S:ad} {cs:List Value} (h:RdT S cs t):Pure Tryz.prog Jt [.agg cs.toArray] S (.bool (dH t)):=by
 intro w hI
 obtain ⟨kv,rfl,_,_,hs,hks⟩:=RdT.iff.1 h
 obtain ⟨k,n,s,ks⟩:=t
 simp only [T.name,T.kids,T.kind,T.n] at hs hks ⊢
 refine xj.2 ?_
 dsimp only[xj,aC]
 refine bl hI fun b1 w' hI=>?_
 refine ae hI 0 rfl aP aF rfl ?_
 refine ba ?_
 refine aH (fun hk=>?_) (fun hk=>?_)
 ·have ho:dH (.mk k n s ks)=(decide (0<=n) && (decide (n<=25) && (decide (s=emptyB) && decide (ks.length=0)))):=by
   rw [dH]; exact if_pos hk
  refine ae hI 0 rfl bb aF rfl ?_
  refine li ?_
  refine gw (fun h1=>?_) (fun h1=>?_)
  ·refine ae hI 0 rfl bb aF rfl ?_
   refine dI ?_
   refine eV h1 ?_
   refine gw (fun h2=>?_) (fun h2=>?_)
   ·refine ae hI 0 rfl aQ aK rfl ?_
    refine bj ?_
    refine eV h2 ?_
    refine gw (fun h3=>?_) (fun h3=>done hI ?_)
    ·refine ae hI 0 rfl ar aj rfl ?_
     refine aD hks ag ?_
     refine ba ?_
     refine eV h3 (done hI ?_)
     rw [ho,h1,h2,show decide (s=emptyB)=true from h3]
     simp
    ·rw [ho,h1,h2,show decide (s=emptyB)=false from h3]; rfl
   ·refine lP (done hI ?_)
    rw [ho,h1,h2]; rfl
  ·refine lP (lP (done hI ?_))
   rw [ho,h1]; rfl
 refine ba ?_
 refine aH (fun hk2=>?_) (fun hk2=>?_)
 ·have ho:dH (.mk k n s ks)=(decide (-999<=n) && (decide (n<=999) && (decide (s=emptyB) && decide (ks.length=0)))):=by
   rw [dH]; exact (if_neg hk).trans (if_pos hk2)
  refine ae hI 0 rfl bb aF rfl ?_
  refine li ?_
  refine gw (fun h1=>?_) (fun h1=>?_)
  ·refine ae hI 0 rfl bb aF rfl ?_
   refine dI ?_
   refine eV h1 ?_
   refine gw (fun h2=>?_) (fun h2=>?_)
   ·refine ae hI 0 rfl aQ aK rfl ?_
    refine bj ?_
    refine eV h2 ?_
    refine gw (fun h3=>?_) (fun h3=>done hI ?_)
    ·refine ae hI 0 rfl ar aj rfl ?_
     refine aD hks ag ?_
     refine ba ?_
     refine eV h3 (done hI ?_)
     rw [ho,h1,h2,show decide (s=emptyB)=true from h3]
     simp
    ·rw [ho,h1,h2,show decide (s=emptyB)=false from h3]; rfl
   ·refine lP (done hI ?_)
    rw [ho,h1,h2]; rfl
  ·refine lP (lP (done hI ?_))
   rw [ho,h1]; rfl
 refine ba ?_
 refine aH (fun hk3=>?_) (fun hk3=>done hI ?_)
 ·have ho:dH (.mk k n s ks)=(decide (n=0) && (i5 s && decide (ks.length<=4))):=by
   rw [dH]; exact (if_neg hk).trans ((if_neg hk2).trans (if_pos hk3))
  refine ae hI 0 rfl bb aF rfl ?_
  refine ba ?_
  refine gw (fun h1=>?_) (fun h1=>?_)
  ·refine ae hI 0 rfl aQ aK rfl ?_
   refine Run.callPure xA yC hI (tP s hs S) fun w' hI=>?_
   refine eV h1 ?_
   refine gw (fun h2=>?_) (fun h2=>done hI ?_)
   ·refine ae hI 0 rfl ar aj rfl ?_
    refine aD hks ag ?_
    refine dI ?_
    refine eV h2 (done hI ?_)
    rw [ho,h1,h2]
    simp
    omega
   ·rw [ho,h1,h2]; rfl
  ·refine lP (done hI ?_)
   rw [ho,h1]; rfl
 ·rw [dH]
  exact congrArg Value.bool ((if_neg hk).trans ((if_neg hk2).trans (if_neg hk3))).symm

theorem zV:∀ (t:T) (S:ad) (cs:List Value) (d:Int),RdT S cs t->-1<=d->d<=1000->Pure Tryz.prog Fk [.agg cs.toArray,.int .i64 d] S (.bool (eU t d)):=by
 refine T.ind fun k n s ks ih S cs d h h0 h1=>?_
 intro w hI
 have hcs:=h
 obtain ⟨kv,rfl,_,_,hs,hks⟩:=RdT.iff.1 h
 simp only [T.name,T.kids,T.kind,T.n] at hs hks ⊢
 have hlen:=hks.le
 simp only [maxLen] at hlen
 refine sD.2 ?_
 dsimp only[sD,aR]
 refine bl hI fun b1 w' hI=>?_
 refine ⟨fun t w'=>t=.bool (decide (d<1) || !dH (.mk k n s ks))/\Inv w [] [.blk b1 (.cells #[.int .i64 k,.int .i64 n,.string s,kv] ab)] S w',?_,?_⟩
 ·refine bC ?_
  refine Cn (fun h=>⟨by rw [h]; rfl,hI⟩) (fun h=>?_)
  refine aw hI 0 ac rfl rfl ?_
  refine Run.callPure Hy GR hI (Fu hcs) fun w' hI=>?_
  refine bU ?_
  exact u6 h ⟨by rw [h]; rfl,hI⟩
 intro t _ _ _ _ _ _ w'
 rintro ⟨rfl,hI⟩
 refine av (fun hb=>done hI ?_) (fun hb=>?_)
 ·rw [eU]
  by_cases hd:d<1
  ·rw [if_pos hd]
  ·rw [if_neg hd]
   simp [hd] at hb
   rw [hb]; rfl
 have hd:¬ d<1:=fun h=>by simp [h] at hb
 have ho:dH (.mk k n s ks)=true:=by simp [hd] at hb; exact hb
 refine ⟨fun i w'=>∃ j:Nat,j<=ks.length/\i=.int .i64 j/\eT (ks.drop j) (d - 1)=eT ks (d - 1)/\Inv w [] [.blk b1 (.cells #[.int .i64 k,.int .i64 n,.string s,kv] ab)] S w',
  fun i _=>ks.length - (intOf i).toNat,⟨0,Nat.zero_le _,rfl,rfl,hI⟩,?_⟩
 intro t5 _ _ _ _ _ _ _ _ _ _ _ _ _ _ _ _ _ w'
 rintro ⟨j,hj,rfl,hrel,hI⟩
 refine ae hI 0 rfl ar aj rfl ?_
 refine aD hks ag ?_
 refine bC ?_
 refine aH (fun hji=>?_) (fun hji=>?_)
 ·have hj':j<ks.length:=by omega
  have hstep:eT (ks.drop j) (d - 1)=(eU ks[j] (d - 1) && eT (ks.drop (j+1)) (d - 1)):=by
   rw [List.drop_eq_getElem_cons hj',eT]
  refine ae hI 0 rfl ar aj rfl ?_
  refine bM hI hks ag ac hj' (fun _ _=>RdT.length) fun cs' hcs'=>?_
  refine jk (by omega) ?_
  refine Run.callPure qE rY hI (ih _ (List.getElem_mem hj') S cs' (d - 1) hcs' (by omega) (by omega)) fun w' hI=>?_
  refine bU ?_
  refine av (fun hne=>done hI ?_) (fun he=>?_)
  ·simp at hne
   rw [eU,if_neg hd,ho,<- hrel,hstep,hne]; rfl
  ·simp at he
   refine bi (by omega) ?_
   exact ⟨⟨j+1,hj',rfl,by rw [<- hrel,hstep,he]; rfl,hI⟩,by simp [intOf]; omega⟩
 ·have:j=ks.length:=by omega
  subst this
  refine done hI ?_
  rw [eU,if_neg hd,ho,<- hrel,List.drop_length,eT]; rfl

theorem p5:∀ (ts:List T) (j:Nat) (h:j<ts.length),co (ts.drop j)=dk ts[j]+co (ts.drop (j+1)):=by
 intro ts j h
 rw [List.drop_eq_getElem_cons h,co]
theorem zS:∀ (t:T) (S:ad) (cs:List Value) (most:Int),RdT S cs t->0<=most->most<=1000->dk t<=4611686018427387904->Pure Tryz.prog D1 [.agg cs.toArray,.int .i64 most] S (.int .i64 (gK t most)):=by
 refine T.ind fun k n s ks ih S cs most h h0 h1 hc=>?_
 intro w hI
 obtain ⟨kv,rfl,_,_,hs,hks⟩:=RdT.iff.1 h
 simp only [T.name,T.kids,T.kind,T.n] at hs hks ⊢
 have hlen:=hks.le
 simp only [maxLen] at hlen
 rw [show dk (T.mk k n s ks)=1+co ks from rfl] at hc
 refine r7.2 ?_
 dsimp only[r7,aR]
 refine bl hI fun b1 w' hI=>?_
 refine ⟨fun i m w'=>∃ (j:Nat) (c:Int),j<=ks.length/\i=.int .i64 j/\m=.int .i64 c/\1<=c/\c+co (ks.drop j)<=1+co ks/\eE (ks.drop j) c most=eE ks 1 most/\Inv w [] [.blk b1 (.cells #[.int .i64 k,.int .i64 n,.string s,kv] ab)] S w',
  fun i _ _=>ks.length - (intOf i).toNat,⟨0,1,Nat.zero_le _,rfl,rfl,by omega,by rw [List.drop_zero]; omega,rfl,hI⟩,?_⟩
 intro t6 _ _ t5 _ _ _ _ _ _ _ _ _ _ _ _ _ _ _ _ _ _ _ _ _ w'
 rintro ⟨j,c,hj,rfl,rfl,hc1,hc2,hrel,hI⟩
 refine ⟨fun t w'=>t=.bool (decide (j<ks.length) && decide (c<=most))/\Inv w [] [.blk b1 (.cells #[.int .i64 k,.int .i64 n,.string s,kv] ab)] S w',?_,?_⟩
 ·refine ae hI 0 rfl ar aj rfl ?_
  refine aD hks ag ?_
  refine bC ?_
  refine gw (fun h=>?_) (fun h=>⟨?_,hI⟩)
  ·refine dI ?_
   refine eV h ⟨?_,hI⟩
   rw [decide_eq_true (show j<ks.length from by have:=of_decide_eq_true h; omega)]; rfl
  ·rw [decide_eq_false (show ¬ j<ks.length from by have:=of_decide_eq_false h; omega)]; rfl
 intro t _ _ _ _ _ _ _ _ _ w'
 rintro ⟨rfl,hI⟩
 refine av (fun hb=>?_) (fun hb=>done hI ?_)
 ·simp at hb
  obtain ⟨hj',hcm⟩:=hb
  have hsp:=p5 ks j hj'
  have hstep:eE (ks.drop j) c most=eE (ks.drop (j+1)) (c+gK ks[j] (most - c)) most:=by
   rw [List.drop_eq_getElem_cons hj',eE,if_pos hcm]
  have hct:=te ks[j] (most - c) (by omega)
  have hp:=rr ks[j]
  have hlp:=d3 (ks.drop (j+1))
  have hcle:1<=gK ks[j] (most - c)/\gK ks[j] (most - c)<=dk ks[j]:=by
   by_cases hq:dk ks[j]<=most - c
   ·rw [hct.1 hq]; omega
   ·have:=hct.2 (by omega); omega
  refine ae hI 0 rfl ar aj rfl ?_
  refine bM hI hks ag ac hj' (fun _ _=>RdT.length) fun cs' hcs'=>?_
  refine jk (by omega) ?_
  refine Run.callPure sy rl hI (ih _ (List.getElem_mem hj') S cs' (most - c) hcs' (by omega) (by omega) (by omega)) fun w' hI=>?_
  refine bi (by omega) ?_
  refine bi (by omega) ?_
  exact ⟨⟨j+1,_,hj',rfl,rfl,by omega,by omega,by rw [<- hrel,hstep],hI⟩,by simp [intOf]; omega⟩
 ·show Value.int .i64 c=Value.int .i64 (eE ks 1 most)
  rw [<- hrel]
  by_cases hj':j<ks.length
  ·simp [hj'] at hb
   rw [List.drop_eq_getElem_cons hj',eE,if_neg (by omega)]
  ·rw [List.drop_eq_nil_of_le (by omega),eE]

mutual
theorem Km:∀ t:T,dk t<=1+(wT t:Int)
 | .mk k n s ks=>by
  rw [show dk (T.mk k n s ks)=1+co ks from rfl,wT]
  have:=C3 ks
  omega
theorem C3:∀ ts:List T,co ts<=ts.length+(wL ts:Int)
 | []=>by simp [co,wL]
 | t::ts=>by
  rw [show co (t::ts)=dk t+co ts from rfl,wL,List.length_cons]
  have:=Km t; have:=C3 ts
  omega
end

theorem kT {t:T} {S:ad} {cs:List Value} (h:RdT S cs t) (hc:dk t<=4611686018427387904):Pure Tryz.prog z1 [.agg cs.toArray] S (.bool (cZ t)):=by
 intro w hI
 have hl:=h.length
 refine mS.2 ?_
 dsimp only[mS,aC]
 refine bl hI fun b1 w' hI=>?_
 refine aw hI 0 ac rfl (by simpa [Value.cells] using hl) ?_
 refine Run.callPure qE rY hI (zV t S cs 30 h (by omega) (by omega)) fun w' hI=>?_
 refine gw (fun h1=>?_) (fun h1=>done hI ?_)
 ·refine aw hI 0 ac rfl (by simpa [Value.cells] using hl) ?_
  refine Run.callPure sy rl hI (zS t S cs 120 h (by omega) (by omega) hc) fun w' hI=>?_
  refine dI ?_
  refine eV h1 (done hI ?_)
  rw [cZ,h1,Ja]; rfl
 ·rw [cZ,h1]; rfl
end
end Go.Proofs.YtcpgagfdeflbkaaGreatDoor
