/- Data that a function has made for itself: trees of blocks that nobody else knows. -/
import Derived.Test.YtnmnddpdikghhaaGreatZrS
import Derived.Test.YtnmnddpdikghhaaGreatZrF
import Derived.Test.YtnmnddpdikghhaaGreatZrh1
namespace Go.Proofs.YtnmnddpdikghhaaGreat
open Go Go.RowKit
attribute [local irreducible] Run CondV ai a4

abbrev bI:=List (Nat × Obj)
def bw (L:bI):List Item:=L.map fun p=>.blk p.1 p.2
theorem c8 (L M:bI):bw (L++M)=bw L++bw M:=by simp [bw]
def Ins (S:ay) (L:bI):Prop:=∀ p∈L,S p.1=some p.2
theorem Ins.mono {S S':ay} {L:bI} (h:Ins S L) (hs:Sle S S'):Ins S' L:=fun p hp=>hs _ _ (h p hp)
theorem Ins.left {S:ay} {L M:bI} (h:Ins S (L++M)):Ins S L:=fun p hp=>h p (List.mem_append_left _ hp)
theorem Ins.right {S:ay} {L M:bI} (h:Ins S (L++M)):Ins S M:=fun p hp=>h p (List.mem_append_right _ hp)
theorem iT {L:bI} {b:Nat}:b∈bS (bw L)↔∃ p∈L,p.1=b:=by
 simp only [bS,bw,List.mem_flatMap,List.mem_map]
 constructor
 ·rintro ⟨it,⟨p,hp,rfl⟩,hb⟩
  simp only [Item.foot,List.mem_singleton] at hb
  exact ⟨p,hp,hb.symm⟩
 ·rintro ⟨p,hp,rfl⟩
  exact ⟨_,⟨p,hp,rfl⟩,by simp [Item.foot]⟩

theorem Inv.publishAll {w0 w:World} {X:List Nat} {A:List Item}:∀ (L:bI) {S:ay},Inv w0 X (A++bw L) S w->
  ∃ S',Inv w0 X A S' w/\Sle S S'/\Ins S' L/\∀ b o,S' b=some o->S b=some o ∨ b∈bS (bw L)
 | [],S,h=>⟨S,by simpa [bw] using h,Sle.refl S,by intro p hp; simp at hp,fun b o hb=>.inl hb⟩
 | p::L,S,h=>by
  have hi:(A++bw (p::L))[A.length]?=some (.blk p.1 p.2):=by simp [bw]
  obtain ⟨h1,h2⟩:=h.publish hi
  have he:(A++bw (p::L)).eraseIdx A.length=A++bw L:=by simp [bw,List.eraseIdx_append_of_length_le]
  rw [he] at h1
  obtain ⟨S',h3,h4,h5,h6⟩:=publishAll L h1
  refine ⟨S',h3,h2.trans h4,fun q hq=>?_,fun b o hb=>?_⟩
  ·rcases List.mem_cons.1 hq with rfl|hq
   ·exact h4 _ _ (by simp [la])
   ·exact h5 q hq
  ·rcases h6 b o hb with h7|h7
   ·simp only [la] at h7
    split at h7
    ·rename_i e; right; rw [iT]; exact ⟨p,List.mem_cons_self ..,e.symm⟩
    ·exact .inl h7
   ·right
    obtain ⟨q,hq,e⟩:=iT.1 h7
    exact iT.2 ⟨q,List.mem_cons_of_mem _ hq,e⟩

/- a slice of elements, its array and all behind it being the function's own -/
def TrSl {α:Type} (k:Nat) (R:bI->List Value->α->Prop) (L:bI) (v:Value) (xs:List α):Prop:=
 ∃ a cap,v=.slice a xs.length cap/\xs.length<=cap/\cap<=maxLen/\
  ((xs=[]/\L=[]) ∨ ∃ b c E,∃ Ls:List bI,a=some ⟨b,0,none⟩/\L=(b,.cells c E)::Ls.flatten/\Ls.length=xs.length/\cap * k<=c.size/\
   ∀ i (h:i<xs.length) (h':i<Ls.length),R Ls[i] (bJ c (i * k) k) xs[i])
inductive TrT:bI->List Value->T->Prop
 | nil {k n:Int} {s:ByteArray} {a:Option Addr} {cap:Nat} (hk:inI k) (hn:inI n) (hs:s.size<=maxLen) (hc:cap<=maxLen) :
   TrT [] [.int .i64 k,.int .i64 n,.string s,.slice a 0 cap] (.mk k n s [])
 | cons {k n:Int} {s:ByteArray} {kids:List T} {b cap:Nat} {c:Array Value} {E:TypeId} {Ls:List bI} (hk:inI k) (hn:inI n) (hs:s.size<=maxLen) (hl:kids.length<=cap) (hc:cap<=maxLen)
   (hLs:Ls.length=kids.length) (hsz:cap * 4<=c.size) (h:∀ i (h:i<kids.length) (h':i<Ls.length),TrT Ls[i] (bJ c (i * 4) 4) kids[i]) :
   TrT ((b,.cells c E)::Ls.flatten) [.int .i64 k,.int .i64 n,.string s,.slice (some ⟨b,0,none⟩) kids.length cap] (.mk k n s kids)
theorem TrT.iff {L:bI} {cs:List Value} {t:T}:TrT L cs t ↔
  ∃ ks,cs=[.int .i64 t.kind,.int .i64 t.n,.string t.name,ks]/\inI t.kind/\inI t.n/\t.name.size<=maxLen/\TrSl 4 TrT L ks t.kids:=by
 constructor
 ·intro h
  cases h with
  | nil hk hn hs hc=>exact ⟨_,rfl,hk,hn,hs,_,_,rfl,Nat.zero_le _,hc,.inl ⟨rfl,rfl⟩⟩
  | cons hk hn hs hl hc hLs hsz h=>exact ⟨_,rfl,hk,hn,hs,_,_,rfl,hl,hc,.inr ⟨_,_,_,_,rfl,rfl,hLs,hsz,h⟩⟩
 ·obtain ⟨k,n,s,kids⟩:=t
  rintro ⟨ks,rfl,hk,hn,hs,a,cap,rfl,hl,hc,h⟩
  rcases h with ⟨h,rfl⟩|⟨b,c,E,Ls,rfl,rfl,hLs,hsz,h⟩
  ·simp only [T.kids] at h
   subst h
   exact TrT.nil hk hn hs hc
  ·exact TrT.cons hk hn hs hl hc hLs hsz h
theorem TrT.length {L:bI} {cs:List Value} {t:T} (h:TrT L cs t):cs.length=4:=by
 obtain ⟨ks,rfl,_⟩:=TrT.iff.1 h; rfl
theorem TrT.one {L:bI} {cs:List Value} {t:T} (h:TrT L cs t):∀ u∈cs,u.oneCell'=true:=by
 obtain ⟨ks,rfl,_,_,_,a,cap,rfl,_⟩:=TrT.iff.1 h
 intro u hu
 simp at hu
 rcases hu with rfl|rfl|rfl|rfl <;> rfl
theorem RdT.one {S:ay} {cs:List Value} {t:T} (h:RdT S cs t):∀ u∈cs,u.oneCell'=true:=by
 obtain ⟨ks,rfl,_,_,_,a,cap,rfl,_⟩:=RdT.iff.1 h
 intro u hu
 simp at hu
 rcases hu with rfl|rfl|rfl|rfl <;> rfl
theorem CW {S:ay} {Ls:List bI} (h:Ins S Ls.flatten) {i:Nat} (hi:i<Ls.length):Ins S Ls[i]:=
 fun p hp=>h p (List.mem_flatten.2 ⟨_,List.getElem_mem hi,hp⟩)
theorem TrSl.rd {α:Type} {S:ay} {k:Nat} {R:bI->List Value->α->Prop} {R':List Value->α->Prop} {L:bI} {v:Value} {xs:List α} (h:TrSl k R L v xs) (hi:Ins S L)
  (hR:∀ L cs x,Ins S L->R L cs x->R' cs x):RdSl S k R' v xs:=by
 obtain ⟨a,cap,rfl,hl,hc,h⟩:=h
 refine ⟨a,cap,rfl,hl,hc,?_⟩
 rcases h with ⟨h,_⟩|⟨b,c,E,Ls,rfl,rfl,hLs,hsz,h⟩
 ·exact .inl h
 ·refine .inr ⟨b,0,c,E,(0,0),rfl,hi _ (List.mem_cons_self ..),fun i h1=>?_⟩
  rw [Nat.zero_add]
  exact hR _ _ _ (CW (fun p hp=>hi p (List.mem_cons_of_mem _ hp)) (by omega)) (h i h1 (by omega))
theorem TrT.rd {S:ay} {L:bI} {cs:List Value} {t:T} (h:TrT L cs t) (hi:Ins S L):RdT S cs t:=by
 induction h with
 | nil hk hn hs hc=>exact RdT.nil hk hn hs hc
 | cons hk hn hs hl hc hLs hsz h ih=>
  refine RdT.cons hk hn hs hl hc (hi _ (List.mem_cons_self ..)) (o:=0) fun i h1=>?_
  rw [Nat.zero_add]
  exact ih i h1 (by omega) (CW (fun p hp=>hi p (List.mem_cons_of_mem _ hp)) (by omega))
def TrC (L:bI) (cs:List Value) (c:C):Prop:=∃ hd ks L1 L2,cs=hd++[ks]/\L=L1++L2/\TrT L1 hd c.head/\TrSl 4 TrT L2 ks c.body
theorem TrC.rd {S:ay} {L:bI} {cs:List Value} {c:C} (h:TrC L cs c) (hi:Ins S L):RdC S cs c:=by
 obtain ⟨hd,ks,L1,L2,rfl,rfl,h1,h2⟩:=h
 exact ⟨hd,ks,rfl,h1.rd hi.left,h2.rd hi.right fun _ _ _ hi h=>h.rd hi⟩
theorem TrC.length {L:bI} {cs:List Value} {c:C} (h:TrC L cs c):cs.length=5:=by
 obtain ⟨hd,ks,L1,L2,rfl,rfl,h1,h2⟩:=h; simp [h1.length]
theorem TrC.one {L:bI} {cs:List Value} {c:C} (h:TrC L cs c):∀ u∈cs,u.oneCell'=true:=by
 obtain ⟨hd,ks,L1,L2,rfl,rfl,h1,a,cap,rfl,_⟩:=h
 intro u hu
 rcases List.mem_append.1 hu with hu|hu
 ·exact h1.one u hu
 ·simp at hu; subst hu; rfl

section
variable {P:Program} {w w0:World} {X:List Nat} {L:List Item} {S:ay} {K:Value->World->Prop}
theorem Run.call0 {f:FuncId} {fn:Func} {args:List Value} {Post:Value->List Item->ay->Prop}
  (hf:P.funcs[f]?=some fn) (hn:(fn.name == "runtime.NumGoroutine" || fn.body.isNone)=false) (h:Inv w0 X L S w) (hc:Tri P f args [] S Post)
  (hk:∀ v I' S' w',Post v I' S'->Sle S S'->Inv w0 X (L++I') S' w'->K v w'):Run P (aF (.func (.func f) #[] #[]) args) w K:=
 Run.call (A:=L) (I:=[]) hf hn (by simpa using h) hc hk
/- x.f = v, x a struct in a block of the function's own -/
theorem eM {T U ty ty' E:TypeId} {f d b:Nat} {c:Array Value} {v:Value} (hI:Inv w0 X L S w) (i:Nat) (hi:L[i]?=some (.blk b (.cells c E))) (hf:eP P T f=some d) (hU:n8 P U=true) (hlt:Nat.blt d c.size=true)
  (hv:v.cells=#[v]) (h1:v.oneCell'=true)
  (hk:∀ w',Inv w0 X (L.set i (.blk b (.cells (c.setIfInBounds d v) E))) S w'->K undef w') :
  Run P (sOp (.fieldAddr T (.const (.pointer (some ⟨b,0,none⟩))) f) ty) w fun q w'=>Run P (sOp (.store U (.const q) (.const v)) ty') w' K:=by
 have hlt:d<c.size:=by simpa [Nat.blt_eq] using hlt
 refine bj hf ?_
 rw [Nat.zero_add]
 refine ei hI i (n:=1) (by rw [hv]; rfl) (by rw [hU]; rfl) hi (by omega) (by rw [hv]; simpa using h1) fun w' hI'=>hk w' ?_
 have:cD c d v.cells.toList=c.setIfInBounds d v:=by
  rw [hv]
  apply Array.toList_inj.1
  simp only [cD,Array.toList_setIfInBounds]
  have hl:d<c.toList.length:=by simpa using hlt
  rw [List.set_eq_take_append_cons_drop,if_pos hl]
  simp
 rw [this] at hI'
 exact hI'
theorem yC {T ty E:TypeId} {o b n:Nat} {c:Array Value} {v:Value} (hI:Inv w0 X L S w) (i:Nat) (hi:L[i]?=some (.blk b (.cells c E))) (hT:uf P T=some n) (hn:v.cells.size=n) (hfit:Nat.ble (o+n) c.size=true)
  (h1:∀ u∈v.cells.toList,u.oneCell'=true) (hk:∀ w',Inv w0 X (L.set i (.blk b (.cells (cD c o v.cells.toList) E))) S w'->K undef w') :
  Run P (sOp (.store T (.const (.pointer (some ⟨b,o,none⟩))) (.const v)) ty) w K:=
 ei hI i hn (by rw [hT]; simp) hi (Nat.le_of_ble_eq_true hfit) h1 hk
/- x = v, x a whole block of the function's own -/
theorem aM {T ty E:TypeId} {b n:Nat} {c cs:Array Value} (hI:Inv w0 X L S w) (i:Nat) (hi:L[i]?=some (.blk b (.cells c E))) (hT:uf P T=some n) (hn:cs.size=n) (hc:c.size=n)
  (h1:∀ u∈cs.toList,u.oneCell'=true) (hk:∀ w',Inv w0 X (L.set i (.blk b (.cells cs E))) S w'->K undef w') :
  Run P (sOp (.store T (.const (.pointer (some ⟨b,0,none⟩))) (.const (.agg cs))) ty) w K:=by
 refine ei hI i (v:=.agg cs) (n:=n) hn (by rw [hT]; simp) hi (by omega) h1 fun w' hI'=>hk w' ?_
 have:cD c 0 (Value.agg cs).cells.toList=cs:=by
  rw [rx _ _ (by simp [Value.cells,hn,hc])]
  simp [Value.cells]
 rw [this] at hI'
 exact hI'
/- s[i] = v, s a slice of the function's own that begins at its block's head -/
end

theorem TrSl.nil {α:Type} {k:Nat} {R:bI->List Value->α->Prop} {a:Option Addr} {cap:Nat} (hc:cap<=maxLen):TrSl k R [] (.slice a 0 cap) ([]:List α):=
 ⟨a,cap,rfl,Nat.zero_le _,hc,.inl ⟨rfl,rfl⟩⟩
/- the first k' elements of an array under construction -/
def Part {α:Type} (k:Nat) (R:bI->List Value->α->Prop) (c:Array Value) (Ls:List bI) (xs:List α):Prop:=
 Ls.length=xs.length/\∀ i (h:i<xs.length) (h':i<Ls.length),R Ls[i] (bJ c (i * k) k) xs[i]
theorem Part.nil {α:Type} (k:Nat) (R:bI->List Value->α->Prop) (c:Array Value):Part k R c [] ([]:List α):=⟨rfl,fun i h=>by simp at h⟩
theorem Part.snoc {α:Type} {k:Nat} {R:bI->List Value->α->Prop} {c:Array Value} {Ls:List bI} {xs:List α} (h:Part k R c Ls xs) {cs:List Value} {L:bI} {x:α} (hx:R L cs x) (hl:cs.length=k)
  (hfit:(xs.length+1) * k<=c.size):Part k R (cD c (xs.length * k) cs) (Ls++[L]) (xs++[x]):=by
 have hf:xs.length * k+cs.length<=c.size:=by rw [hl]; rw [Nat.add_mul,Nat.one_mul] at hfit; exact hfit
 refine ⟨by simp [h.1],fun i h1 h2=>?_⟩
 by_cases hi:i<xs.length
 ·have h3:i<Ls.length:=by rw [h.1]; exact hi
  rw [List.getElem_append_left h3,List.getElem_append_left hi,gg hf]
  ·exact h.2 i hi h3
  ·left
   have:(i+1) * k<=xs.length * k:=Nat.mul_le_mul_right _ hi
   rw [Nat.add_mul,Nat.one_mul] at this
   exact this
 ·have hi':i=xs.length:=by simp at h1; omega
  subst hi'
  have h3:xs.length=Ls.length:=h.1.symm
  rw [List.getElem_append_right (by omega),List.getElem_append_right (by omega)]
  simp only [h3,Nat.sub_self,List.getElem_cons_zero]
  rw [<- h3,<- hl,gu (by rw [hl] at hf ⊢; exact hf)]
  exact hx
theorem Part.sl {α:Type} {k:Nat} {R:bI->List Value->α->Prop} {b:Nat} {c:Array Value} {E:TypeId} {Ls:List bI} {xs:List α} {cap:Nat} (h:Part k R c Ls xs) (h1:xs.length<=cap) (h2:cap<=maxLen) (h3:cap * k<=c.size) :
  TrSl k R ((b,.cells c E)::Ls.flatten) (.slice (some ⟨b,0,none⟩) xs.length cap) xs:=
 ⟨_,cap,rfl,h1,h2,.inr ⟨b,c,E,Ls,rfl,rfl,h.1,h3,h.2⟩⟩

end Go.Proofs.YtnmnddpdikghhaaGreat

/- 'and', 'or' as the code has them; slices of strings; a list made of constants. -/
namespace Go.Proofs.YtnmnddpdikghhaaGreat
open Go Go.RowKit
section
variable {P:Program} {w:World} {K:Value->World->Prop} {ty:TypeId}
theorem ae {b:Bool} {A B:Prop} (h:A):ai (.bool b) b A B:=by unfold ai; simp only [if_true]; exact h
theorem ah {c b:Bool} {A B:Prop} (hc:c≠b) (h:B):ai (.bool c) b A B:=by unfold ai; simp only [if_neg hc]; exact h
attribute [local irreducible] Run CondV ai a4
theorem i5 {a:Bool} {v:Value} {A:Prop} (ht:a=true->A) (hf:a=false->K (.bool false) w):ai (.bool a) true A (Run P (sOp (.pick (.const (.bool a)) (.const v) (.const (.bool false))) ty) w K):=
 Gd ht fun h=>by
  have h':a=false:=by simpa using h
  refine qo ?_
  rw [h']
  exact hf h'
theorem gG {a:Bool} {v u:Value} (ha:a=true) (hk:K v w):Run P (sOp (.pick (.const (.bool a)) (.const v) (.const u)) ty) w K:=by
 refine qo ?_
 rw [ha]
 exact hk
theorem lQ {v:Value} {A:Prop} (hk:K (.bool false) w):ai (.bool false) true A (Run P (sOp (.pick (.const (.bool false)) (.const v) (.const (.bool false))) ty) w K):=
 i5 (fun h=>by cases h) fun _=>hk
theorem C7 {a:Bool} {v:Value} {A:Prop} (ht:a=true->K (.bool true) w) (hf:a=false->A):ai (.bool a) false A (Run P (sOp (.pick (.const (.bool a)) (.const (.bool true)) (.const v)) ty) w K):=
 Gd hf fun h=>by
  have h':a=true:=by simpa using h
  refine qo ?_
  rw [h']
  exact ht h'
theorem uZ {a:Bool} {v u:Value} (ha:a=false) (hk:K v w):Run P (sOp (.pick (.const (.bool a)) (.const u) (.const v)) ty) w K:=by
 refine qo ?_
 rw [ha]
 exact hk
theorem LQ {v:Value} {A:Prop} (hk:K (.bool true) w):ai (.bool true) false A (Run P (sOp (.pick (.const (.bool true)) (.const (.bool true)) (.const v)) ty) w K):=
 C7 (fun _=>hk) fun h=>by cases h
end

def pk (cs:List Value) (s:ByteArray):Prop:=cs=[.string s]
def rT (cs:List Value) (n:Int):Prop:=cs=[.int .i64 n]
section
variable {P:Program} {w w0:World} {X:List Nat} {L:List Item} {S:ay} {K:Value->World->Prop}
attribute [local irreducible] Run CondV ai a4
/- an operation whose run is known in every world: it makes one block -/
theorem qL (h:Inv w0 X L S w) {s:Sem Next} {v:Nat->Value} {o:Obj} (hr:s.run P w=.ok (.value (v w.heap.size)) { w with heap:=w.heap.push o })
  (hk:∀ b w',Inv w0 X (L++[.blk b o]) S w'->K (v b) w'):Run P s w K:=Run.of hr (hk _ _ (h.alloc o))
/- the last item is published -/
theorem Inv.publishLast {b:Nat} {o:Obj} (h:Inv w0 X (L++[.blk b o]) S w):Inv w0 X L (la S b o) w/\Sle S (la S b o):=by
 have hi:(L++[Item.blk b o])[L.length]?=some (.blk b o):=by simp
 have:=h.publish hi
 rwa [show (L++[Item.blk b o]).eraseIdx L.length=L by simp [List.eraseIdx_append_of_length_le]] at this
/- s[i] of a slice of one-cell elements -/
theorem iX {α:Type} {T U ty ty' E:TypeId} {R:List Value->α->Prop} {v u:Value} {xs:List α} (hI:Inv w0 X L S w) (h:RdSl S 1 R v xs) (hu:dY P T=some (E,1)) (hU:n8 P U=true)
  {i:Nat} (hi:i<xs.length) (hR:∀ cs,R cs xs[i]->cs=[u]) (hk:K u w) :
  Run P (sOp (.indexAddr T (.const v) (.const (.int .i64 i))) ty) w fun p w'=>Run P (sOp (.load U (.const p)) ty') w' K:=by
 obtain ⟨b,o,cap,c,E',fz,rfl,hS,hr⟩:=h.at_ hi
 refine bq hu hi ?_
 refine eE hU ?_ hk
 rw [hI.cellS hS]
 exact bx (hR _ hr) 0 u rfl
end
theorem RdSl.ofCells {α:Type} {S:ay} {R:List Value->α->Prop} {b n:Nat} {c:Array Value} {E:TypeId} {fz:Nat × Nat} {xs:List α} (hS:S b=some (.cells c E fz)) (hn:xs.length=n) (hm:n<=maxLen)
  (h:∀ i (h:i<xs.length),R (bJ c i 1) xs[i]):RdSl S 1 R (.slice (some ⟨b,0,none⟩) n n) xs:=by
 subst hn
 exact ⟨_,_,rfl,Nat.le_refl _,hm,.inr ⟨b,0,c,E,fz,rfl,hS,fun i hi=>by rw [Nat.zero_add,Nat.mul_one]; exact h i hi⟩⟩

end Go.Proofs.YtnmnddpdikghhaaGreat

/- Which terms are valid: the two ways of saying it, and that they agree. No program in sight. -/
namespace Go.Proofs.YtnmnddpdikghhaaGreat
open Go

def signs:List ByteArray:=[⟨#[43]⟩,⟨#[45]⟩,⟨#[42]⟩,⟨#[47,47]⟩,⟨#[61]⟩,⟨#[92,61]⟩,⟨#[61,61]⟩,⟨#[60]⟩,⟨#[62]⟩,⟨#[61,60]⟩,⟨#[62,61]⟩,⟨#[61,58,61]⟩,⟨#[46]⟩,⟨#[91,93]⟩,⟨#[33]⟩]
def nR (b:UInt8):Bool:=decide (97<=b.toNat) && decide (b.toNat<=122)
def oo (s:ByteArray):Bool:=s.data.toList.all nR
def kl (s:ByteArray):Bool:=oo s && (decide (1<=s.size) && decide (s.size<=6))
def kU (s:ByteArray):Bool:=kl s || signs.any fun x=>decide (x=s)
def emptyB:ByteArray:=⟨#[]⟩
def fD (t:T):Bool:=
 if t.kind=1 then decide (0<=t.n) && (decide (t.n<=25) && (decide (t.name=emptyB) && decide (t.kids.length=0)))
 else if t.kind=2 then decide (-999<=t.n) && (decide (t.n<=999) && (decide (t.name=emptyB) && decide (t.kids.length=0)))
 else if t.kind=3 then decide (t.n=0) && (kU t.name && decide (t.kids.length<=4))
 else false
mutual
def eT:T->Int->Bool
 | .mk k n s ks,d=>if d<1 then false else fD (.mk k n s ks) && eB ks (d - 1)
def eB:List T->Int->Bool
 | [],_=>true
 | t::ts,d=>eT t d && eB ts d
end
mutual
def dQ:T->Int
 | .mk _ _ _ ks=>1+cZ ks
def cZ:List T->Int
 | []=>0
 | t::ts=>dQ t+cZ ts
end
/- the count that stops -/
mutual
def jf:T->Int->Int
 | .mk _ _ _ ks,most=>gi ks 1 most
def gi:List T->Int->Int->Int
 | [],n,_=>n
 | t::ts,n,most=>if n<=most then gi ts (n+jf t (most - n)) most else n
end
def d6 (t:T):Bool:=eT t 30 && decide (dQ t<=120)

mutual
theorem lF:∀ t:T,1<=dQ t
 | .mk _ _ _ ks=>by simp only [dQ]; have:=dS ks; omega
theorem dS:∀ ts:List T,0<=cZ ts
 | []=>by simp [cZ]
 | t::ts=>by simp only [cZ]; have:=lF t; have:=dS ts; omega
end
mutual
theorem uj:∀ (t:T) (most:Int),0<=most->(dQ t<=most->jf t most=dQ t)/\(most<dQ t->most<jf t most/\jf t most<=dQ t)
 | .mk _ _ _ ks,most,h=>by
  simp only [dQ,jf]
  have:=Br ks 1 most h (by omega)
  exact this
theorem Br:∀ (ts:List T) (n most:Int),0<=most->1<=n->(n+cZ ts<=most->gi ts n most=n+cZ ts)/\(most<n+cZ ts->most<gi ts n most/\gi ts n most<=n+cZ ts)
 | [],n,most,h,h1=>by
  simp only [cZ,gi]
  exact ⟨fun _=>by omega,fun _=>by omega⟩
 | t::ts,n,most,h,h1=>by
  simp only [cZ,gi]
  have hp:=lF t
  have hl:=dS ts
  by_cases hn:n<=most
  ·rw [if_pos hn]
   have ht:=uj t (most - n) (by omega)
   by_cases hc:dQ t<=most - n
   ·rw [ht.1 hc]
    have hr:=Br ts (n+dQ t) most h (by omega)
    exact ⟨fun h2=>by rw [hr.1 (by omega)]; omega,fun h2=>by have:=hr.2 (by omega); omega⟩
   ·have h3:=ht.2 (by omega)
    have h4:gi ts (n+jf t (most - n)) most=n+jf t (most - n):=by
     cases ts with
     | nil=>rfl
     | cons u us=>rw [gi,if_neg (by omega)]
    rw [h4]
    exact ⟨fun h2=>by omega,fun h2=>by omega⟩
  ·rw [if_neg hn]
   exact ⟨fun h2=>by omega,fun h2=>by omega⟩
end
theorem Im (t:T):decide (jf t 120<=120)=decide (dQ t<=120):=by
 have h:=uj t 120 (by omega)
 by_cases hc:dQ t<=120
 ·rw [h.1 hc]
 ·have:=h.2 (by omega)
  rw [decide_eq_false (by omega),decide_eq_false hc]

/- the scan: it counts as it goes -/
mutual
def fx:T->Int->Int->Bool × Int
 | .mk k n s ks,deep,c=>
  if 120<c+1 ∨ 30<deep then (false,c+1)
  else if k=1 ∨ k=2 then (fD (.mk k n s ks),c+1)
  else if k=3 then (if fD (.mk k n s ks) then jY ks (deep+1) (c+1) else (false,c+1))
  else (false,c+1)
def jY:List T->Int->Int->Bool × Int
 | [],_,c=>(true,c)
 | t::ts,deep,c=>if (fx t deep c).1 then jY ts deep (fx t deep c).2 else (false,(fx t deep c).2)
end
theorem Ef {k n:Int} {s:ByteArray} {ks:List T} (h:fD (.mk k n s ks)=true) (hk:k=1 ∨ k=2):ks=[]:=by
 unfold fD at h
 simp only [T.kind,T.n,T.name,T.kids] at h
 rcases hk with rfl|rfl <;> simp at h <;> exact h.2.2.2
theorem JF {k n:Int} {s:ByteArray} {ks:List T} (h:fD (.mk k n s ks)=true):k=1 ∨ k=2 ∨ k=3:=by
 unfold fD at h
 simp only [T.kind,T.n,T.name,T.kids] at h
 by_cases h1:k=1
 ·exact .inl h1
 ·by_cases h2:k=2
  ·exact .inr (.inl h2)
  ·by_cases h3:k=3
   ·exact .inr (.inr h3)
   ·simp [h1,h2,h3] at h
mutual
theorem zD:∀ (t:T) (deep c:Int),(fx t deep c).1=(eT t (31 - deep) && decide (c+dQ t<=120))/\((fx t deep c).1=true->(fx t deep c).2=c+dQ t)
 | .mk k n s ks,deep,c=>by
  have hl:=dS ks
  rw [show dQ (T.mk k n s ks)=1+cZ ks from rfl]
  simp only [fx,eT]
  by_cases h1:120<c+1 ∨ 30<deep
  ·rw [if_pos h1]
   refine ⟨?_,fun h=>by cases h⟩
   rcases h1 with h1|h1
   ·rw [decide_eq_false (show ¬ (c+(1+cZ ks)<=120) by omega),Bool.and_false]
   ·rw [if_pos (show 31 - deep<1 by omega)]; rfl
  ·rw [if_neg h1,if_neg (show ¬ (31 - deep<1) by omega)]
   by_cases h2:k=1 ∨ k=2
   ·rw [if_pos h2]
    cases ho:fD (.mk k n s ks) with
    | false=>exact ⟨rfl,fun h=>by cases h⟩
    | true=>
     have:=Ef ho h2
     subst this
     rw [show cZ []=0 from rfl]
     simp only [eB,Bool.true_and]
     exact ⟨by rw [decide_eq_true (show c+(1+0)<=120 by omega)],fun _=>by omega⟩
   ·rw [if_neg h2]
    by_cases h3:k=3
    ·rw [if_pos h3]
     cases ho:fD (.mk k n s ks) with
     | false=>exact ⟨rfl,fun h=>by cases h⟩
     | true=>
      simp only [if_true,Bool.true_and]
      have:=DG ks (deep+1) (c+1)
      rw [show 31 - (deep+1)=31 - deep - 1 by omega] at this
      rw [show c+(1+cZ ks)=c+1+cZ ks by omega]
      refine ⟨?_,this.2⟩
      rw [this.1]
      cases ks with
      | nil=>rw [show cZ []=0 from rfl,decide_eq_true (show c+1+0<=120 by omega)]; rfl
      | cons t ts=>simp
    ·rw [if_neg h3]
     have ho:fD (.mk k n s ks)=false:=by
      rw [<- Bool.not_eq_true]
      intro h
      rcases JF h with e|e|e
      ·exact h2 (.inl e)
      ·exact h2 (.inr e)
      ·exact h3 e
     rw [ho]
     exact ⟨rfl,fun h=>by cases h⟩
theorem DG:∀ (ts:List T) (deep c:Int),(jY ts deep c).1=(eB ts (31 - deep) && (ts.isEmpty || decide (c+cZ ts<=120)))/\((jY ts deep c).1=true->(jY ts deep c).2=c+cZ ts)
 | [],deep,c=>by simp [jY,eB,cZ]
 | t::ts,deep,c=>by
  have ht:=zD t deep c
  have hp:=dS ts
  rw [show cZ (t::ts)=dQ t+cZ ts from rfl]
  simp only [jY,eB,List.isEmpty_cons,Bool.false_or]
  cases h1:(fx t deep c).1 with
  | false=>
   rw [h1] at ht
   have h2:=ht.1
   refine ⟨?_,fun h=>by cases h⟩
   simp only [Bool.false_eq_true,if_false]
   cases hs:eT t (31 - deep) with
   | false=>rfl
   | true=>
    rw [hs,Bool.true_and] at h2
    have:¬ (c+dQ t<=120):=of_decide_eq_false h2.symm
    rw [decide_eq_false (show ¬ (c+(dQ t+cZ ts)<=120) by omega),Bool.and_false]
  | true=>
   rw [h1] at ht
   have h2:=ht.1
   have h3:=ht.2 rfl
   simp only [if_true]
   rw [h3]
   have hs:eT t (31 - deep)=true/\c+dQ t<=120:=by
    have:=h2.symm
    simpa using this
   have hl:=DG ts deep (c+dQ t)
   rw [show c+(dQ t+cZ ts)=c+dQ t+cZ ts by omega]
   refine ⟨?_,hl.2⟩
   rw [hl.1,hs.1,Bool.true_and]
   cases ts with
   | nil=>rw [show cZ []=0 from rfl,decide_eq_true (show c+dQ t+0<=120 by omega)]; rfl
   | cons u us=>simp
end
theorem GC (t:T):(fx t 1 0).1=d6 t:=by
 rw [(zD t 1 0).1,d6]
 simp

end Go.Proofs.YtnmnddpdikghhaaGreat

/- laws.toTerm and its kin: a copy in memory of its own. -/
namespace Go.Proofs.YtnmnddpdikghhaaGreat
open Go Go.RowKit
attribute [local irreducible] Run CondV ai a4

mutual
def wT:T->Nat
 | .mk _ _ s ks=>s.size+ks.length+wL ks
def wL:List T->Nat
 | []=>0
 | t::ts=>wT t+wL ts
end
theorem gF:∀ {ts:List T} {t:T},t∈ts->wT t<=wL ts
 | x::xs,t,h=>by
  simp only [wL]
  rcases List.mem_cons.1 h with rfl|h
  ·omega
  ·have:=gF h; omega

abbrev H2 {α:Type} (k:Nat) (R:bI->List Value->α->Prop) (S:ay) (xs:List α):Value->List Item->ay->Prop:=
 fun v I' S'=>S'=S/\∃ L,I'=bw L/\TrSl k R L v xs
abbrev vb (S:ay) (t:T):Value->List Item->ay->Prop:=fun v I' S'=>S'=S/\∃ cs L,v=.agg cs.toArray/\I'=bw L/\TrT L cs t

def wC (c:C):Nat:=wT c.head+c.body.length+wL c.body
def wP:List C->Nat
 | []=>0
 | c::cs=>wC c+wP cs
abbrev Js (S:ay) (c:C):Value->List Item->ay->Prop:=fun v I' S'=>S'=S/\∃ cs L,v=.agg cs.toArray/\I'=bw L/\TrC L cs c
end Go.Proofs.YtnmnddpdikghhaaGreat

/- The reference's TermValid and what it calls. -/
namespace Go.Proofs.YtnmnddpdikghhaaGreat
open Go Go.RowKit
attribute [local irreducible] Run CondV ai a4

theorem xU {α:Type} (p:α->Bool) (l:List α) (k:Nat) (h:k<l.length):(l.drop k).all p=(p l[k] && (l.drop (k+1)).all p):=by
 rw [List.drop_eq_getElem_cons h,List.all_cons]
theorem Fg {α:Type} (p:α->Bool) (l:List α) (k:Nat) (h:k<l.length):(l.drop k).any p=(p l[k] || (l.drop (k+1)).any p):=by
 rw [List.drop_eq_getElem_cons h,List.any_cons]
theorem lg (s:ByteArray):s.data.toList.length=s.size:=by rw [Array.length_toList]; rfl
theorem Ew (s:ByteArray) (k:Nat) (h:k<s.size):s.data.toList[k]'(by rw [lg]; exact h)=s[k]:=rfl

theorem qS (s:ByteArray) (hs:s.size<=maxLen) (S:ay):Pure Tryz.prog GR [.string s] S (.bool (kl s)):=by
 intro w hI
 simp only [maxLen] at hs
 refine yG ?_
 unfold vH
 refine ⟨fun i w'=>∃ k:Nat,k<=s.size/\i=.int .i64 k/\(s.data.toList.drop k).all nR=oo s/\Inv w [] [] S w',fun i _=>s.size - (intOf i).toNat,⟨0,Nat.zero_le _,rfl,rfl,hI⟩,?_⟩
 intro t3 _ _ _ _ _ _ _ _ _ _ _ _ _ _ _ _ _ w'
 rintro ⟨k,hk,rfl,hrel,hI⟩
 refine ij bk ?_
 refine cF ?_
 refine bF (fun hki=>?_) (fun hki=>?_)
 ·have hk':k<s.size:=by omega
  have hstep:=xU nR s.data.toList k (by rw [lg]; exact hk')
  rw [Ew s k hk'] at hstep
  refine ⟨fun t w'=>t=.bool (!nR s[k])/\Inv w [] [] S w',?_,?_⟩
  ·refine jO bk hk' ?_
   refine cF ?_
   refine C7 (fun h=>⟨?_,hI⟩) (fun h=>?_)
   ·have h:=of_decide_eq_true h
    rw [nR,decide_eq_false (show ¬ 97<=s[k].toNat by omega)]; rfl
   ·refine jO bk hk' ?_
    refine ff ?_
    refine uZ h ⟨?_,hI⟩
    have h:=of_decide_eq_false h
    rw [nR,decide_eq_true (show 97<=s[k].toNat by omega),Bool.true_and]
    by_cases h2:s[k].toNat<=122
    ·rw [decide_eq_true h2,decide_eq_false (by omega)]; rfl
    ·rw [decide_eq_false h2,decide_eq_true (by omega)]; rfl
  intro t _ _ _ _ _ _ _ _ _ w'
  rintro ⟨rfl,hI⟩
  refine a7 (fun h=>done hI ?_) (fun h=>?_)
  ·simp at h
   rw [kl,<- hrel,hstep,h]; rfl
  ·simp at h
   refine bR (by omega) ?_
   refine ⟨⟨k+1,hk',rfl,by rw [<- hrel,hstep,h]; rfl,hI⟩,by simp [intOf]; omega⟩
 ·have:k=s.size:=by omega
  subst this
  have hl:oo s=true:=by rw [<- hrel,<- lg,List.drop_length]; rfl
  refine ij bk ?_
  refine kT ?_
  refine i5 (fun h=>?_) (fun h=>done hI ?_)
  ·refine ij bk ?_
   refine gO ?_
   refine gG h (done hI ?_)
   have h:=of_decide_eq_true h
   rw [kl,hl,decide_eq_true (show 1<=s.size by omega)]
   by_cases h2:s.size<=6
   ·rw [decide_eq_true h2,decide_eq_true (by omega)]; rfl
   ·rw [decide_eq_false h2,decide_eq_false (by omega)]; rfl
  ·have h:=of_decide_eq_false h
   rw [kl,hl,decide_eq_false (show ¬ 1<=s.size by omega)]; rfl

def tB:Array Value:=(signs.map Value.string).toArray
theorem Fa {S:ay} {b:Nat} {E:TypeId} (hS:S b=some (.cells tB E)):RdSl S 1 pk (.slice (some ⟨b,0,none⟩) 15 15) signs:=by
 refine RdSl.ofCells hS rfl (by decide) ?_
 intro i hi
 have hi':i<15:=hi
 match i,hi' with
 | 0,_|1,_|2,_|3,_|4,_|5,_|6,_|7,_|8,_|9,_|10,_|11,_|12,_|13,_|14,_=>rfl
abbrev AW (S:ay):Value->List Item->ay->Prop:=fun v I' S'=>I'=[]/\Sle S S'/\RdSl S' 1 pk v signs
theorem Du {S:ay} {b n:Nat} {o:Obj} (h:n<=b) (hs:Sle S (la S b o)):Ext n [] S (la S b o):=
 ⟨hs,fun c o' hc=>by
  simp only [la] at hc
  split at hc
  ·rename_i e; subst e; exact .inr (.inr h)
  ·exact .inl hc⟩
theorem pE (S:ay):Tri Tryz.prog EQ [] [] S (AW S):=by
 intro w hI
 refine wi ?_
 unfold rN
 refine qL (v:=fun b=>.slice (some ⟨b,0,none⟩) 15 15) (o:=.cells tB i6) hI (by kernel_rfl) fun b w' hI=>?_
 have hnew:w.heap.size<=b:=by
  rcases hI.new b (by simp [bS,Item.foot]) with h|h
  ·simp [bS] at h
  ·exact h
 obtain ⟨h1,h2⟩:=Inv.publishLast (L:=[]) hI
 exact ⟨_,_,_,rfl,h1,Du hnew h2,rfl,h2,Fa (by simp [la]; rfl)⟩
theorem Fe (s:ByteArray) {xs:List ByteArray} {S:ay} {v:Value} (h:RdSl S 1 pk v xs):Pure Tryz.prog IM [v,.string s] S (.bool (xs.any fun x=>decide (x=s))):=by
 intro w hI
 have hlen:=h.le
 simp only [maxLen] at hlen
 refine AE ?_
 unfold zm
 refine ⟨fun i w'=>∃ k:Nat,k<=xs.length/\i=.int .i64 k/\(xs.drop k).any (fun x=>decide (x=s))=xs.any (fun x=>decide (x=s))/\Inv w [] [] S w',fun i _=>xs.length - (intOf i).toNat,⟨0,Nat.zero_le _,rfl,rfl,hI⟩,?_⟩
 intro t3 _ _ _ _ _ _ _ _ _ _ _ _ _ w'
 rintro ⟨k,hk,rfl,hrel,hI⟩
 refine bm h cH ?_
 refine cF ?_
 refine bF (fun hki=>?_) (fun hki=>?_)
 ·have hk':k<xs.length:=by omega
  have hstep:=Fg (fun x=>decide (x=s)) xs k hk'
  refine iX hI h cH bz hk' (fun cs hcs=>hcs) ?_
  refine cK ?_
  refine a7 (fun he=>done hI ?_) (fun he=>?_)
  ·rw [<- hrel,hstep,he]; rfl
  ·refine bR (by omega) ?_
   exact ⟨⟨k+1,hk',rfl,by rw [<- hrel,hstep,he]; rfl,hI⟩,by simp [intOf]; omega⟩
 ·have:k=xs.length:=by omega
  subst this
  exact done hI (by rw [<- hrel,List.drop_length]; rfl)
/- the end of a reading function that has published something for itself -/
theorem ph {w w':World} {L:List Item} {S S':ay} {r r':Value} (h:Inv w [] L S' w') (hs:Sle S S') (e:r'=r):Ending.returned r'=.returned r/\Inv w [] [] S w':=⟨by rw [e],h.nil.less hs⟩
theorem uh (s:ByteArray) (hs:s.size<=maxLen) (S:ay):Pure Tryz.prog Am [.string s] S (.bool (kU s)):=by
 intro w hI
 refine qR ?_
 unfold ox
 refine Run.callPure vr vP hI (qS s hs S) fun w' hI=>?_
 refine C7 (fun h=>done hI ?_) (fun h=>?_)
 ·rw [kU,h]; rfl
 ·refine Run.call0 rb sY hI (pE S) fun v' I' S' w'=>?_
  rintro ⟨rfl,_,hr⟩ hle hI
  refine Run.callPure FF Hv hI (Fe s hr) fun w' hI=>?_
  refine uZ h (ph hI hle ?_)
  rw [kU,h]; rfl

theorem E0 {t:T} {S:ay} {cs:List Value} (h:RdT S cs t):Pure Tryz.prog IV [.agg cs.toArray] S (.bool (fD t)):=by
 intro w hI
 obtain ⟨kv,rfl,_,_,hs,hks⟩:=RdT.iff.1 h
 obtain ⟨k,n,s,ks⟩:=t
 simp only [T.name,T.kids,T.kind,T.n] at hs hks ⊢
 refine zW ?_
 unfold xO;dsimp only
 refine bN hI fun b1 w' hI=>?_
 refine ar hI 0 rfl bv bg rfl ?_
 refine bO ?_
 refine bF (fun hk=>?_) (fun hk=>?_)
 ·have ho:fD (.mk k n s ks)=(decide (0<=n) && (decide (n<=25) && (decide (s=emptyB) && decide (ks.length=0)))):=by
   rw [fD]; exact if_pos hk
  refine ar hI 0 rfl bn bg rfl ?_
  refine kT ?_
  refine i5 (fun h1=>?_) (fun h1=>?_)
  ·refine ar hI 0 rfl bn bg rfl ?_
   refine gO ?_
   refine gG h1 ?_
   refine i5 (fun h2=>?_) (fun h2=>?_)
   ·refine ar hI 0 rfl bH bz rfl ?_
    refine cK ?_
    refine gG h2 ?_
    refine i5 (fun h3=>?_) (fun h3=>done hI ?_)
    ·refine ar hI 0 rfl aP aL rfl ?_
     refine bm hks aG ?_
     refine bO ?_
     refine gG h3 (done hI ?_)
     rw [ho,h1,h2,show decide (s=emptyB)=true from h3]
     simp
    ·rw [ho,h1,h2,show decide (s=emptyB)=false from h3]; rfl
   ·refine lQ (done hI ?_)
    rw [ho,h1,h2]; rfl
  ·refine lQ (lQ (done hI ?_))
   rw [ho,h1]; rfl
 refine bO ?_
 refine bF (fun hk2=>?_) (fun hk2=>?_)
 ·have ho:fD (.mk k n s ks)=(decide (-999<=n) && (decide (n<=999) && (decide (s=emptyB) && decide (ks.length=0)))):=by
   rw [fD]; exact (if_neg hk).trans (if_pos hk2)
  refine ar hI 0 rfl bn bg rfl ?_
  refine kT ?_
  refine i5 (fun h1=>?_) (fun h1=>?_)
  ·refine ar hI 0 rfl bn bg rfl ?_
   refine gO ?_
   refine gG h1 ?_
   refine i5 (fun h2=>?_) (fun h2=>?_)
   ·refine ar hI 0 rfl bH bz rfl ?_
    refine cK ?_
    refine gG h2 ?_
    refine i5 (fun h3=>?_) (fun h3=>done hI ?_)
    ·refine ar hI 0 rfl aP aL rfl ?_
     refine bm hks aG ?_
     refine bO ?_
     refine gG h3 (done hI ?_)
     rw [ho,h1,h2,show decide (s=emptyB)=true from h3]
     simp
    ·rw [ho,h1,h2,show decide (s=emptyB)=false from h3]; rfl
   ·refine lQ (done hI ?_)
    rw [ho,h1,h2]; rfl
  ·refine lQ (lQ (done hI ?_))
   rw [ho,h1]; rfl
 refine bO ?_
 refine bF (fun hk3=>?_) (fun hk3=>done hI ?_)
 ·have ho:fD (.mk k n s ks)=(decide (n=0) && (kU s && decide (ks.length<=4))):=by
   rw [fD]; exact (if_neg hk).trans ((if_neg hk2).trans (if_pos hk3))
  refine ar hI 0 rfl bn bg rfl ?_
  refine bO ?_
  refine i5 (fun h1=>?_) (fun h1=>?_)
  ·refine ar hI 0 rfl bH bz rfl ?_
   refine Run.callPure x0 yz hI (uh s hs S) fun w' hI=>?_
   refine gG h1 ?_
   refine i5 (fun h2=>?_) (fun h2=>done hI ?_)
   ·refine ar hI 0 rfl aP aL rfl ?_
    refine bm hks aG ?_
    refine gO ?_
    refine gG h2 (done hI ?_)
    rw [ho,h1,h2]
    simp
    omega
   ·rw [ho,h1,h2]; rfl
  ·refine lQ (done hI ?_)
   rw [ho,h1]; rfl
 ·rw [fD]
  exact congrArg Value.bool ((if_neg hk).trans ((if_neg hk2).trans (if_neg hk3))).symm

theorem AJ:∀ (t:T) (S:ay) (cs:List Value) (d:Int),RdT S cs t->-1<=d->d<=1000->Pure Tryz.prog DR [.agg cs.toArray,.int .i64 d] S (.bool (eT t d)):=by
 refine T.ind fun k n s ks ih S cs d h h0 h1=>?_
 intro w hI
 have hcs:=h
 obtain ⟨kv,rfl,_,_,hs,hks⟩:=RdT.iff.1 h
 simp only [T.name,T.kids,T.kind,T.n] at hs hks ⊢
 have hlen:=hks.le
 simp only [maxLen] at hlen
 refine wg ?_
 unfold s4
 refine bN hI fun b1 w' hI=>?_
 refine ⟨fun t w'=>t=.bool (decide (d<1) || !fD (.mk k n s ks))/\Inv w [] [.blk b1 (.cells #[.int .i64 k,.int .i64 n,.string s,kv] ab)] S w',?_,?_⟩
 ·refine cF ?_
  refine C7 (fun h=>⟨by rw [h]; rfl,hI⟩) (fun h=>?_)
  refine aO hI 0 ag rfl rfl ?_
  refine Run.callPure GH Gk hI (E0 hcs) fun w' hI=>?_
  refine cN ?_
  exact uZ h ⟨by rw [h]; rfl,hI⟩
 intro t _ _ _ _ _ _ w'
 rintro ⟨rfl,hI⟩
 refine a7 (fun hb=>done hI ?_) (fun hb=>?_)
 ·rw [eT]
  by_cases hd:d<1
  ·rw [if_pos hd]
  ·rw [if_neg hd]
   simp [hd] at hb
   rw [hb]; rfl
 have hd:¬ d<1:=fun h=>by simp [h] at hb
 have ho:fD (.mk k n s ks)=true:=by simp [hd] at hb; exact hb
 refine ⟨fun i w'=>∃ j:Nat,j<=ks.length/\i=.int .i64 j/\eB (ks.drop j) (d - 1)=eB ks (d - 1)/\Inv w [] [.blk b1 (.cells #[.int .i64 k,.int .i64 n,.string s,kv] ab)] S w',
  fun i _=>ks.length - (intOf i).toNat,⟨0,Nat.zero_le _,rfl,rfl,hI⟩,?_⟩
 intro t5 _ _ _ _ _ _ _ _ _ _ _ _ _ _ _ _ _ w'
 rintro ⟨j,hj,rfl,hrel,hI⟩
 refine ar hI 0 rfl aP aL rfl ?_
 refine bm hks aG ?_
 refine cF ?_
 refine bF (fun hji=>?_) (fun hji=>?_)
 ·have hj':j<ks.length:=by omega
  have hstep:eB (ks.drop j) (d - 1)=(eT ks[j] (d - 1) && eB (ks.drop (j+1)) (d - 1)):=by
   rw [List.drop_eq_getElem_cons hj',eB]
  refine ar hI 0 rfl aP aL rfl ?_
  refine dN hI hks aG ag hj' (fun _ _=>RdT.length) fun cs' hcs'=>?_
  refine lq (by omega) ?_
  refine Run.callPure r9 s7 hI (ih _ (List.getElem_mem hj') S cs' (d - 1) hcs' (by omega) (by omega)) fun w' hI=>?_
  refine cN ?_
  refine a7 (fun hne=>done hI ?_) (fun he=>?_)
  ·simp at hne
   rw [eT,if_neg hd,ho,<- hrel,hstep,hne]; rfl
  ·simp at he
   refine bR (by omega) ?_
   exact ⟨⟨j+1,hj',rfl,by rw [<- hrel,hstep,he]; rfl,hI⟩,by simp [intOf]; omega⟩
 ·have:j=ks.length:=by omega
  subst this
  refine done hI ?_
  rw [eT,if_neg hd,ho,<- hrel,List.drop_length,eB]; rfl

theorem jE:∀ (ts:List T) (j:Nat) (h:j<ts.length),cZ (ts.drop j)=dQ ts[j]+cZ (ts.drop (j+1)):=by
 intro ts j h
 rw [List.drop_eq_getElem_cons h,cZ]
theorem z5:∀ (t:T) (S:ay) (cs:List Value) (most:Int),RdT S cs t->0<=most->most<=1000->dQ t<=4611686018427387904->Pure Tryz.prog EY [.agg cs.toArray,.int .i64 most] S (.int .i64 (jf t most)):=by
 refine T.ind fun k n s ks ih S cs most h h0 h1 hc=>?_
 intro w hI
 obtain ⟨kv,rfl,_,_,hs,hks⟩:=RdT.iff.1 h
 simp only [T.name,T.kids,T.kind,T.n] at hs hks ⊢
 have hlen:=hks.le
 simp only [maxLen] at hlen
 rw [show dQ (T.mk k n s ks)=1+cZ ks from rfl] at hc
 refine wU ?_
 unfold sQ
 refine bN hI fun b1 w' hI=>?_
 refine ⟨fun i m w'=>∃ (j:Nat) (c:Int),j<=ks.length/\i=.int .i64 j/\m=.int .i64 c/\1<=c/\c+cZ (ks.drop j)<=1+cZ ks/\gi (ks.drop j) c most=gi ks 1 most/\Inv w [] [.blk b1 (.cells #[.int .i64 k,.int .i64 n,.string s,kv] ab)] S w',
  fun i _ _=>ks.length - (intOf i).toNat,⟨0,1,Nat.zero_le _,rfl,rfl,by omega,by rw [List.drop_zero]; omega,rfl,hI⟩,?_⟩
 intro t6 _ _ t5 _ _ _ _ _ _ _ _ _ _ _ _ _ _ _ _ _ _ _ _ _ w'
 rintro ⟨j,c,hj,rfl,rfl,hc1,hc2,hrel,hI⟩
 refine ⟨fun t w'=>t=.bool (decide (j<ks.length) && decide (c<=most))/\Inv w [] [.blk b1 (.cells #[.int .i64 k,.int .i64 n,.string s,kv] ab)] S w',?_,?_⟩
 ·refine ar hI 0 rfl aP aL rfl ?_
  refine bm hks aG ?_
  refine cF ?_
  refine i5 (fun h=>?_) (fun h=>⟨?_,hI⟩)
  ·refine gO ?_
   refine gG h ⟨?_,hI⟩
   rw [decide_eq_true (show j<ks.length from by have:=of_decide_eq_true h; omega)]; rfl
  ·rw [decide_eq_false (show ¬ j<ks.length from by have:=of_decide_eq_false h; omega)]; rfl
 intro t _ _ _ _ _ _ _ _ _ w'
 rintro ⟨rfl,hI⟩
 refine a7 (fun hb=>?_) (fun hb=>done hI ?_)
 ·simp at hb
  obtain ⟨hj',hcm⟩:=hb
  have hsp:=jE ks j hj'
  have hstep:gi (ks.drop j) c most=gi (ks.drop (j+1)) (c+jf ks[j] (most - c)) most:=by
   rw [List.drop_eq_getElem_cons hj',gi,if_pos hcm]
  have hct:=uj ks[j] (most - c) (by omega)
  have hp:=lF ks[j]
  have hlp:=dS (ks.drop (j+1))
  have hcle:1<=jf ks[j] (most - c)/\jf ks[j] (most - c)<=dQ ks[j]:=by
   by_cases hq:dQ ks[j]<=most - c
   ·rw [hct.1 hq]; omega
   ·have:=hct.2 (by omega); omega
  refine ar hI 0 rfl aP aL rfl ?_
  refine dN hI hks aG ag hj' (fun _ _=>RdT.length) fun cs' hcs'=>?_
  refine lq (by omega) ?_
  refine Run.callPure ri s6 hI (ih _ (List.getElem_mem hj') S cs' (most - c) hcs' (by omega) (by omega) (by omega)) fun w' hI=>?_
  refine bR (by omega) ?_
  refine bR (by omega) ?_
  exact ⟨⟨j+1,_,hj',rfl,rfl,by omega,by omega,by rw [<- hrel,hstep],hI⟩,by simp [intOf]; omega⟩
 ·show Value.int .i64 c=Value.int .i64 (gi ks 1 most)
  rw [<- hrel]
  by_cases hj':j<ks.length
  ·simp [hj'] at hb
   rw [List.drop_eq_getElem_cons hj',gi,if_neg (by omega)]
  ·rw [List.drop_eq_nil_of_le (by omega),gi]

mutual
theorem JE:∀ t:T,dQ t<=1+(wT t:Int)
 | .mk k n s ks=>by
  rw [show dQ (T.mk k n s ks)=1+cZ ks from rfl,wT]
  have:=ze ks
  omega
theorem ze:∀ ts:List T,cZ ts<=ts.length+(wL ts:Int)
 | []=>by simp [cZ,wL]
 | t::ts=>by
  rw [show cZ (t::ts)=dQ t+cZ ts from rfl,wL,List.length_cons]
  have:=JE t; have:=ze ts
  omega
end

theorem lx {t:T} {S:ay} {cs:List Value} (h:RdT S cs t) (hc:dQ t<=4611686018427387904):Pure Tryz.prog Ar [.agg cs.toArray] S (.bool (d6 t)):=by
 intro w hI
 have hl:=h.length
 refine qW ?_
 unfold n7
 refine bN hI fun b1 w' hI=>?_
 refine aO hI 0 ag rfl (by simpa [Value.cells] using hl) ?_
 refine Run.callPure r9 s7 hI (AJ t S cs 30 h (by omega) (by omega)) fun w' hI=>?_
 refine i5 (fun h1=>?_) (fun h1=>done hI ?_)
 ·refine aO hI 0 ag rfl (by simpa [Value.cells] using hl) ?_
  refine Run.callPure ri s6 hI (z5 t S cs 120 h (by omega) (by omega) hc) fun w' hI=>?_
  refine gO ?_
  refine gG h1 (done hI ?_)
  rw [d6,h1,Im]; rfl
 ·rw [d6,h1]; rfl

end Go.Proofs.YtnmnddpdikghhaaGreat

/- slices.IndexFunc and slices.ContainsFunc, whatever function is handed to them. -/
namespace Go.Proofs.YtnmnddpdikghhaaGreat
open Go Go.RowKit
attribute [local irreducible] Run CondV ai a4

def c9 {α σ:Type} (step:σ->α->Bool × σ):σ->List α->Nat->Int × σ
 | st,[],_=>(-1,st)
 | st,x::xs,k=>if (step st x).1 then ((k:Int),(step st x).2) else c9 step (step st x).2 xs (k+1)
def qT {α σ:Type} (step:σ->α->Bool × σ):σ->List α->Bool × σ
 | st,[]=>(false,st)
 | st,x::xs=>if (step st x).1 then (true,(step st x).2) else qT step (step st x).2 xs
theorem lI {α σ:Type} (step:σ->α->Bool × σ):∀ (xs:List α) (st:σ) (k:Nat),decide (0<=(c9 step st xs k).1)=(qT step st xs).1/\(c9 step st xs k).2=(qT step st xs).2
 | [],st,k=>by simp [c9,qT]
 | x::xs,st,k=>by
  by_cases h:(step st x).1=true
  ·simp [c9,qT,h]
  ·simpa [c9,qT,h] using lI step xs (step st x).2 (k+1)
theorem oO {α:Type} (p:α->Bool):∀ xs:List α,qT (σ:=Unit) (fun _ x=>(p x,())) () xs=(xs.any p,())
 | []=>rfl
 | x::xs=>by
  simp only [qT,List.any_cons]
  cases h:p x with
  | true=>rfl
  | false=>rw [oO p xs]; rfl
abbrev fv (f:FuncId) (cap:List Value):Value:=.func (.func f) #[] cap.toArray
section
variable {P:Program} {w w0:World} {X:List Nat} {A I:List Item} {S:ay} {K:Value->World->Prop}
theorem BK {P:Program} {f:FuncId} {fn:Func} {cap args:List Value} {w:World} (hf:P.funcs[f]?=some fn) (hn:(fn.name == "runtime.NumGoroutine" || fn.body.isNone)=false) :
  (aF (fv f cap) args).run P w=.ok (.enter f (args++cap).toArray) w:=by
 simp only [Bool.or_eq_false_iff] at hn
 have h1:¬ fn.name = "runtime.NumGoroutine" := by simpa using hn.1
 have h2:¬ fn.body=none:=fun e=>by rw [e] at hn; simp at hn
 simp [aF,Deferred.ofValue,invoke,callFunc,hf,h1,h2]
theorem Run.callV {f:FuncId} {fn:Func} {cap args:List Value} {Post:Value->List Item->ay->Prop}
  (hf:P.funcs[f]?=some fn) (hn:(fn.name == "runtime.NumGoroutine" || fn.body.isNone)=false) (h:Inv w0 X (A++I) S w) (hc:Tri P f (args++cap) I S Post)
  (hk:∀ v I' S' w',Post v I' S'->Sle S S'->Inv w0 X (A++I') S' w'->K v w'):Run P (aF (fv f cap) args) w K:=by
 unfold Run
 rw [BK hf hn]
 refine (hc w (h.sub (List.sublist_append_right A I)).begin).mono ?_
 rintro e w' ⟨v,I',S',rfl,hI,hE,hP⟩
 exact hk v I' S' w' hP hE.1 (Inv.step h hI hE.2)
end
/- what a function handed over does to the state that it keeps -/
structure Cb (P:Program) (f:FuncId) (fn:Func) {α σ:Type} (cap:List Value) (S:ay) (It:σ->List Item) (ok:σ->Prop) (step:σ->α->Bool × σ) (R:Value->α->Prop) (xs:List α):Prop where
 hf:P.funcs[f]?=some fn
 hn:(fn.name == "runtime.NumGoroutine" || fn.body.isNone)=false
 keep:∀ st x,x∈xs->ok st->(step st x).1=false->ok (step st x).2
 call:∀ st x v,x∈xs->ok st->R v x->Tri P f (v::cap) (It st) S fun r I' S'=>r=.bool (step st x).1/\I'=It (step st x).2/\S'=S
/- a function that only reads, handed over -/
theorem Cb.pure {P:Program} {f:FuncId} {fn:Func} {α:Type} {cap:List Value} {S:ay} {p:α->Bool} {R:Value->α->Prop} {xs:List α} (L:List Item) (hf:P.funcs[f]?=some fn) (hn:(fn.name == "runtime.NumGoroutine" || fn.body.isNone)=false)
  (h:∀ x v,x∈xs->R v x->Tri P f (v::cap) L S fun r I' S'=>r=.bool (p x)/\I'=L/\S'=S):Cb P f fn cap S (fun _:Unit=>L) (fun _=>True) (fun _ x=>(p x,())) R xs:=
 ⟨hf,hn,fun _ _ _ _ _=>trivial,fun _ x v hx _ hR=>h x v hx hR⟩

theorem rv {σ:Type} {f:FuncId} {fn:Func} {cap:List Value} {S:ay} {It:σ->List Item} {ok:σ->Prop} {step:σ->T->Bool × σ} {xs:List T} {v:Value}
  (hcb:Cb Tryz.prog f fn cap S It ok step (fun v x=>∃ cs,v=.agg cs.toArray/\RdT S cs x) xs) (h:RdSl S 4 (RdT S) v xs) {st:σ} (hok:ok st) :
  Tri Tryz.prog jU [v,fv f cap] (It st) S fun r I' S'=>r=.int .i64 (c9 step st xs 0).1/\I'=It (c9 step st xs 0).2/\S'=S:=by
 intro w hI
 have hlen:=h.le
 simp only [maxLen] at hlen
 refine ii ?_
 unfold gH
 refine bm h aG ?_
 refine ⟨fun i w'=>∃ (k:Nat) (st':σ),k<=xs.length/\i=.int .i64 k/\ok st'/\c9 step st' (xs.drop k) k=c9 step st xs 0/\Inv w (bS (It st)) (It st') S w',fun i _=>xs.length - (intOf i).toNat,
  ⟨0,st,Nat.zero_le _,rfl,hok,rfl,hI⟩,?_⟩
 intro t8 _ _ _ _ _ _ _ _ _ _ _ _ w'
 rintro ⟨k,st',hk,rfl,hok',hrel,hI⟩
 refine cF ?_
 refine bF (fun hki=>?_) (fun hki=>?_)
 ·have hk':k<xs.length:=by omega
  have hm:=List.getElem_mem hk'
  have hstep:c9 step st' (xs.drop k) k=if (step st' xs[k]).1 then ((k:Int),(step st' xs[k]).2) else c9 step (step st' xs[k]).2 (xs.drop (k+1)) (k+1):=by
   rw [List.drop_eq_getElem_cons hk',c9]
  refine dN hI h aG ag hk' (fun _ _=>RdT.length) fun cs hcs=>?_
  refine Run.callV (A:=[]) (args:=[.agg cs.toArray]) hcb.hf hcb.hn (by simpa using hI) (hcb.call st' _ _ hm hok' ⟨cs,rfl,hcs⟩) fun v' I' S' w'=>?_
  rintro ⟨rfl,rfl,rfl⟩ _ hI
  refine a7 (fun hb=>?_) (fun hb=>?_)
  ·rw [if_pos hb] at hstep
   refine ⟨_,_,_,rfl,by simpa using hI,Ext.refl _ _ _,?_,?_,rfl⟩
   ·rw [<- hrel,hstep]
   ·rw [<- hrel,hstep]
  ·refine bR (by omega) ?_
   rw [hb] at hstep
   refine ⟨⟨k+1,_,hk',rfl,hcb.keep st' _ hm hok' hb,?_,by simpa using hI⟩,by simp [intOf]; omega⟩
   rw [<- hrel,hstep]
   rfl
 ·have:k=xs.length:=by omega
  subst this
  rw [List.drop_length,c9] at hrel
  exact ⟨_,_,_,rfl,hI,Ext.refl _ _ _,by rw [<- hrel],by rw [<- hrel],rfl⟩
theorem iY {σ:Type} {f:FuncId} {fn:Func} {cap:List Value} {S:ay} {It:σ->List Item} {ok:σ->Prop} {step:σ->T->Bool × σ} {xs:List T} {v:Value}
  (hcb:Cb Tryz.prog f fn cap S It ok step (fun v x=>∃ cs,v=.agg cs.toArray/\RdT S cs x) xs) (h:RdSl S 4 (RdT S) v xs) {st:σ} (hok:ok st) :
  Tri Tryz.prog iG [v,fv f cap] (It st) S fun r I' S'=>r=.bool (qT step st xs).1/\I'=It (qT step st xs).2/\S'=S:=by
 intro w hI
 refine gD ?_
 unfold fF
 refine Run.call (A:=[]) jm js (by simpa using hI) (rv hcb h hok) fun v' I' S' w'=>?_
 rintro ⟨rfl,rfl,rfl⟩ _ hI
 refine kT ?_
 have he:=lI step xs st 0
 exact ⟨_,_,_,rfl,by simpa using hI,Ext.refl _ _ _,by rw [he.1],by rw [he.2],rfl⟩
end Go.Proofs.YtnmnddpdikghhaaGreat

/- The program's TermValid and what it calls. -/
namespace Go.Proofs.YtnmnddpdikghhaaGreat
open Go Go.RowKit
attribute [local irreducible] Run CondV ai a4

theorem lX (n low high:Int) (S:ay):Pure Tryz.prog F0 [.int .i64 n,.int .i64 low,.int .i64 high] S (.bool (decide (low<=n) && decide (n<=high))):=by
 intro w hI
 refine yT ?_
 unfold vI
 refine gO ?_
 refine i5 (fun h=>?_) (fun h=>done hI (by rw [h]; rfl))
 refine gO ?_
 exact gG h (done hI (by rw [h]; rfl))
theorem mz (s:ByteArray) (hs:s.size<=maxLen) (S:ay):Pure Tryz.prog Ao [.string s] S (.bool (kl s)):=by
 intro w hI
 simp only [maxLen] at hs
 refine tf ?_
 unfold nu
 refine ij bk ?_
 refine ⟨fun i w'=>∃ k:Nat,k<=s.size/\i=.int .i64 k/\(s.data.toList.drop k).all nR=oo s/\Inv w [] [] S w',fun i _=>s.size - (intOf i).toNat,⟨0,Nat.zero_le _,rfl,rfl,hI⟩,?_⟩
 intro t6 _ _ _ _ _ _ _ _ _ _ _ _ _ _ _ w'
 rintro ⟨k,hk,rfl,hrel,hI⟩
 refine cF ?_
 refine bF (fun hki=>?_) (fun hki=>?_)
 ·have hk':k<s.size:=by omega
  have hstep:=xU nR s.data.toList k (by rw [lg]; exact hk')
  rw [Ew s k hk'] at hstep
  refine ⟨fun t w'=>t=.bool (!nR s[k])/\Inv w [] [] S w',?_,?_⟩
  ·refine jO bk hk' ?_
   refine cF ?_
   refine C7 (fun h=>⟨?_,hI⟩) (fun h=>?_)
   ·have h:=of_decide_eq_true h
    rw [nR,decide_eq_false (show ¬ 97<=s[k].toNat by omega)]; rfl
   ·refine jO bk hk' ?_
    refine ff ?_
    refine uZ h ⟨?_,hI⟩
    have h:=of_decide_eq_false h
    rw [nR,decide_eq_true (show 97<=s[k].toNat by omega),Bool.true_and]
    by_cases h2:s[k].toNat<=122
    ·rw [decide_eq_true h2,decide_eq_false (by omega)]; rfl
    ·rw [decide_eq_false h2,decide_eq_true (by omega)]; rfl
  intro t _ _ _ _ _ _ _ _ _ w'
  rintro ⟨rfl,hI⟩
  refine a7 (fun h=>done hI ?_) (fun h=>?_)
  ·simp at h
   rw [kl,<- hrel,hstep,h]; rfl
  ·simp at h
   refine bR (by omega) ?_
   refine ⟨⟨k+1,hk',rfl,by rw [<- hrel,hstep,h]; rfl,hI⟩,by simp [intOf]; omega⟩
 ·have:k=s.size:=by omega
  subst this
  have hl:oo s=true:=by rw [<- hrel,<- lg,List.drop_length]; rfl
  refine ij bk ?_
  refine Run.callPure oj ov hI (lX _ _ _ S) fun w' hI=>done hI ?_
  rw [kl,hl,Bool.true_and]
  congr 1
  rw [Bool.eq_iff_iff]
  simp
  omega
theorem zU (S:ay):Tri Tryz.prog Fp [] [] S (AW S):=by
 intro w hI
 refine wo ?_
 unfold sf
 refine qL (v:=fun b=>.slice (some ⟨b,0,none⟩) 15 15) (o:=.cells tB i6) hI (by kernel_rfl) fun b w' hI=>?_
 have hnew:w.heap.size<=b:=by
  rcases hI.new b (by simp [bS,Item.foot]) with h|h
  ·simp [bS] at h
  ·exact h
 obtain ⟨h1,h2⟩:=Inv.publishLast (L:=[]) hI
 exact ⟨_,_,_,rfl,h1,Du hnew h2,rfl,h2,Fa (by simp [la]; rfl)⟩
theorem qb (s:ByteArray) {xs:List ByteArray} {S:ay} {v:Value} (h:RdSl S 1 pk v xs) :
  Pure Tryz.prog tX [v,.string s] S (.int .i64 (c9 (σ:=Unit) (fun _ x=>(decide (x=s),())) () xs 0).1):=by
 intro w hI
 have hlen:=h.le
 simp only [maxLen] at hlen
 refine og ?_
 unfold kj
 refine bm h cH ?_
 refine ⟨fun i w'=>∃ k:Nat,k<=xs.length/\i=.int .i64 k/\c9 (σ:=Unit) (fun _ x=>(decide (x=s),())) () (xs.drop k) k=c9 (σ:=Unit) (fun _ x=>(decide (x=s),())) () xs 0/\Inv w [] [] S w',
  fun i _=>xs.length - (intOf i).toNat,⟨0,Nat.zero_le _,rfl,rfl,hI⟩,?_⟩
 intro t8 _ _ _ _ _ _ _ _ _ _ _ _ w'
 rintro ⟨k,hk,rfl,hrel,hI⟩
 refine cF ?_
 refine bF (fun hki=>?_) (fun hki=>?_)
 ·have hk':k<xs.length:=by omega
  rw [List.drop_eq_getElem_cons hk',c9] at hrel
  refine iX hI h cH bz hk' (fun cs hcs=>hcs) ?_
  refine cK ?_
  refine bF (fun he=>done hI ?_) (fun he=>?_)
  ·rw [<- hrel,if_pos (by simpa using he.symm)]
  ·refine bR (by omega) ?_
   rw [if_neg (by simpa using fun e=>he e.symm)] at hrel
   exact ⟨⟨k+1,hk',rfl,hrel,hI⟩,by simp [intOf]; omega⟩
 ·have:k=xs.length:=by omega
  subst this
  rw [List.drop_length,c9] at hrel
  exact done hI (by rw [<- hrel])
theorem mO (s:ByteArray) {xs:List ByteArray} {S:ay} {v:Value} (h:RdSl S 1 pk v xs) :
  Pure Tryz.prog oZ [v,.string s] S (.bool (xs.any fun x=>decide (x=s))):=by
 intro w hI
 refine ll ?_
 unfold jb
 refine Run.callPure rf s3 hI (qb s h) fun w' hI=>?_
 refine kT (done hI ?_)
 rw [(lI _ xs () 0).1,oO]
theorem uA (s:ByteArray) (hs:s.size<=maxLen) (S:ay):Pure Tryz.prog AA [.string s] S (.bool (kU s)):=by
 intro w hI
 refine rZ ?_
 unfold nV
 refine Run.callPure od nr hI (mz s hs S) fun w' hI=>?_
 refine C7 (fun h=>done hI ?_) (fun h=>?_)
 ·rw [kU,h]; rfl
 ·refine Run.call0 CF C8 hI (zU S) fun v' I' S' w'=>?_
  rintro ⟨rfl,_,hr⟩ hle hI
  refine Run.callPure oF nG hI (mO s hr) fun w' hI=>?_
  refine uZ h (ph hI hle ?_)
  rw [kU,h]; rfl

abbrev ji (b:Nat) (c:Int):Item:=.blk b (.cells #[.int .i64 c] dw)
abbrev ti (bc:Nat) (S:ay) (r:Bool × Int):Value->List Item->ay->Prop:=fun v I' S'=>v=.bool r.1/\I'=[ji bc r.2]/\S'=S
theorem Fq:∀ (t:T) (deep c:Int),c<=120->(fx t deep c).1=true->c<(fx t deep c).2/\(fx t deep c).2<=120:=by
 intro t deep c hc h
 have:=zD t deep c
 rw [this.2 h]
 have h1:=this.1
 rw [h] at h1
 have h2:=h1.symm
 simp at h2
 have:=lF t
 omega
theorem A8 (deep:Int):∀ (ks:List T) (c:Int),qT (fun c t=>(!(fx t deep c).1,(fx t deep c).2)) c ks=(!(jY ks deep c).1,(jY ks deep c).2)
 | [],c=>by simp [qT,jY]
 | t::ts,c=>by
  by_cases h:(fx t deep c).1=true
  ·simp [qT,jY,h,A8 deep ts]
  ·simp [qT,jY,h]

theorem Gp:∀ (t:T) (S:ay) (cs:List Value) (deep c:Int) (bc:Nat),RdT S cs t->0<=deep->deep<=31->0<=c->c<=120->
  Tri Tryz.prog KB [.agg cs.toArray,.int .i64 deep,.pointer (some ⟨bc,0,none⟩)] [ji bc c] S (ti bc S (fx t deep c)):=by
 refine T.ind fun k n s ks ih S cs deep c bc h hd0 hd1 hc0 hc1=>?_
 intro w hI
 obtain ⟨kv,rfl,_,_,hs,hks⟩:=RdT.iff.1 h
 simp only [T.name,T.kids,T.kind,T.n] at hs hks ⊢
 have hend:∀ {L:List Item} {w':World} {v:Value} (r:Bool × Int),Inv w (bS [ji bc c]) (ji bc r.2::L) S w'->v=.bool r.1->r=fx (.mk k n s ks) deep c->
   ∃ v' I' S',Ending.returned v=.returned v'/\Inv w (bS [ji bc c]) I' S' w'/\Ext w.heap.size (bS [ji bc c]) S S'/\ti bc S (fx (.mk k n s ks) deep c) v' I' S':=by
  intro L w' v r h1 h2 h3
  subst h3
  exact ⟨_,_,_,rfl,h1.pick [true],Ext.refl _ _ _,h2,rfl,rfl⟩
 refine Cc ?_
 unfold Bj;dsimp only
 refine bN hI fun b3 w' hI=>?_
 refine bN hI fun b4 w' hI=>?_
 refine bN hI fun b5 w' hI=>?_
 refine bB hI 3 Cn rfl rfl ?_
 refine cG ?_
 refine bB hI 0 bg rfl rfl ?_
 refine bR (by omega) ?_
 refine cG ?_
 refine ei hI 0 (n:=1) rfl (by rw [bg]; rfl) rfl (Nat.le_of_ble_eq_true rfl) (by simp [Value.cells]; rfl) fun w' hI=>?_
 refine ⟨fun t w'=>t=.bool (decide (120<c+1 ∨ 30<deep))/\Inv w (bS [ji bc c]) [ji bc (c+1),.blk b3 (.cells #[.int .i64 k,.int .i64 n,.string s,kv] ab),.blk b4 (.cells #[.int .i64 deep] dw),.blk b5 (.cells #[.pointer (some ⟨bc,0,none⟩)] lN)] S w',?_,?_⟩
 ·refine bB hI 3 Cn rfl rfl ?_
  refine cG ?_
  refine bB hI 0 bg rfl rfl ?_
  refine ff ?_
  refine C7 (fun h=>⟨?_,hI⟩) (fun h=>?_)
  ·have h:=of_decide_eq_true h
   rw [decide_eq_true (show 120<c+1 ∨ 30<deep from .inl h)]
  ·refine bB hI 2 bg rfl rfl ?_
   refine ff ?_
   refine uZ h ⟨?_,hI⟩
   have h:=of_decide_eq_false h
   congr 1
   rw [Bool.eq_iff_iff]
   simp
   omega
 intro t _ _ _ _ _ _ _ w'
 rintro ⟨rfl,hI⟩
 refine bF (fun hb=>?_) (fun hb=>?_)
 ·exact hend (false,c+1) hI rfl (by rw [fx,if_pos hb])
 have hsc:∀ r,(if k=1 ∨ k=2 then (fD (.mk k n s ks),c+1) else if k=3 then (if fD (.mk k n s ks) then jY ks (deep+1) (c+1) else (false,c+1)) else (false,c+1))=r->r=fx (.mk k n s ks) deep c:=by
  intro r hr
  rw [fx,if_neg hb,hr]
 refine ar hI 1 rfl bv bg rfl ?_
 refine bO ?_
 refine bF (fun hk=>?_) (fun hk=>?_)
 ·have ho:fD (.mk k n s ks)=(decide (0<=n) && (decide (n<=25) && (decide (s=emptyB) && decide (ks.length=0)))):=by
   rw [fD]; exact if_pos hk
  have hfin:∀ {w':World} {b:Bool},Inv w (bS [ji bc c]) [ji bc (c+1),.blk b3 (.cells #[.int .i64 k,.int .i64 n,.string s,kv] ab),.blk b4 (.cells #[.int .i64 deep] dw),.blk b5 (.cells #[.pointer (some ⟨bc,0,none⟩)] lN)] S w'->
    b=fD (.mk k n s ks)->∃ v' I' S',Ending.returned (.bool b)=.returned v'/\Inv w (bS [ji bc c]) I' S' w'/\Ext w.heap.size (bS [ji bc c]) S S'/\ti bc S (fx (.mk k n s ks) deep c) v' I' S':=
   fun hI hb=>hend (_,c+1) hI (by rw [hb]) (hsc _ (if_pos (.inl hk)))
  refine ar hI 1 rfl bn bg rfl ?_
  refine Run.callPure oj ov hI (lX _ _ _ S) fun w' hI=>?_
  refine i5 (fun h2=>?_) (fun h2=>?_)
  ·have h2':=h2
   rw [Bool.and_eq_true] at h2'
   refine ar hI 1 rfl bH bz rfl ?_
   refine cK ?_
   refine gG h2 ?_
   refine i5 (fun h3=>?_) (fun h3=>hfin hI ?_)
   ·refine ar hI 1 rfl aP aL rfl ?_
    refine bm hks aG ?_
    refine bO ?_
    refine gG h3 (hfin hI ?_)
    rw [ho,h2'.1,h2'.2,show decide (s=emptyB)=true from h3]
    simp
   ·rw [ho,h2'.1,h2'.2,show decide (s=emptyB)=false from h3]; rfl
  ·refine lQ (hfin hI ?_)
   rw [ho,<- Bool.and_assoc,h2]; rfl
 refine bO ?_
 refine bF (fun hk2=>?_) (fun hk2=>?_)
 ·have ho:fD (.mk k n s ks)=(decide (-999<=n) && (decide (n<=999) && (decide (s=emptyB) && decide (ks.length=0)))):=by
   rw [fD]; exact (if_neg hk).trans (if_pos hk2)
  have hfin:∀ {w':World} {b:Bool},Inv w (bS [ji bc c]) [ji bc (c+1),.blk b3 (.cells #[.int .i64 k,.int .i64 n,.string s,kv] ab),.blk b4 (.cells #[.int .i64 deep] dw),.blk b5 (.cells #[.pointer (some ⟨bc,0,none⟩)] lN)] S w'->
    b=fD (.mk k n s ks)->∃ v' I' S',Ending.returned (.bool b)=.returned v'/\Inv w (bS [ji bc c]) I' S' w'/\Ext w.heap.size (bS [ji bc c]) S S'/\ti bc S (fx (.mk k n s ks) deep c) v' I' S':=
   fun hI hb=>hend (_,c+1) hI (by rw [hb]) (hsc _ (if_pos (.inr hk2)))
  refine ar hI 1 rfl bn bg rfl ?_
  refine Run.callPure oj ov hI (lX _ _ _ S) fun w' hI=>?_
  refine i5 (fun h2=>?_) (fun h2=>?_)
  ·have h2':=h2
   rw [Bool.and_eq_true] at h2'
   refine ar hI 1 rfl bH bz rfl ?_
   refine cK ?_
   refine gG h2 ?_
   refine i5 (fun h3=>?_) (fun h3=>hfin hI ?_)
   ·refine ar hI 1 rfl aP aL rfl ?_
    refine bm hks aG ?_
    refine bO ?_
    refine gG h3 (hfin hI ?_)
    rw [ho,h2'.1,h2'.2,show decide (s=emptyB)=true from h3]
    simp
   ·rw [ho,h2'.1,h2'.2,show decide (s=emptyB)=false from h3]; rfl
  ·refine lQ (hfin hI ?_)
   rw [ho,<- Bool.and_assoc,h2]; rfl
 refine bO ?_
 have hk12:¬ (k=1 ∨ k=2):=fun h=>h.elim hk hk2
 refine bF (fun hk3=>?_) (fun hk3=>?_)
 ·have ho:fD (.mk k n s ks)=(decide (n=0) && (kU s && decide (ks.length<=4))):=by
   rw [fD]; exact (if_neg hk).trans ((if_neg hk2).trans (if_pos hk3))
  refine ⟨fun t w'=>t=.bool (!fD (.mk k n s ks))/\Inv w (bS [ji bc c]) [ji bc (c+1),.blk b3 (.cells #[.int .i64 k,.int .i64 n,.string s,kv] ab),.blk b4 (.cells #[.int .i64 deep] dw),.blk b5 (.cells #[.pointer (some ⟨bc,0,none⟩)] lN)] S w',?_,?_⟩
  ·refine ar hI 1 rfl bn bg rfl ?_
   refine iD ?_
   refine C7 (fun h1=>?_) (fun h1=>?_)
   ·have h1':decide (n=0)=false:=by simpa using h1
    refine LQ ⟨?_,hI⟩
    rw [ho,h1']; rfl
   ·have h1':decide (n=0)=true:=by simpa using h1
    refine ar hI 1 rfl bH bz rfl ?_
    refine Run.callPure yq zt hI (uA s hs S) fun w' hI=>?_
    refine cN ?_
    refine uZ h1 ?_
    refine C7 (fun h2=>⟨?_,hI⟩) (fun h2=>?_)
    ·have h2':kU s=false:=by simpa using h2
     rw [ho,h1',h2']; rfl
    ·have h2':kU s=true:=by simpa using h2
     refine ar hI 1 rfl aP aL rfl ?_
     refine bm hks aG ?_
     refine ff ?_
     refine uZ h2 ⟨?_,hI⟩
     rw [ho,h1',h2',Bool.true_and,Bool.true_and]
     congr 1
     rw [Bool.eq_iff_iff]
     simp
     omega
  intro t _ _ _ _ _ _ _ _ _ _ _ _ _ _ w'
  rintro ⟨rfl,hI⟩
  refine a7 (fun hb1=>?_) (fun hb1=>?_)
  ·have hb1':fD (.mk k n s ks)=false:=by simpa using hb1
   exact hend (false,c+1) hI rfl (hsc _ (by rw [if_neg hk12,if_pos hk3,hb1']; rfl))
  ·have hb1':fD (.mk k n s ks)=true:=by simpa using hb1
   refine ar hI 1 rfl aP aL rfl ?_
   refine qc ?_
   have hcb:Cb Tryz.prog Gi Tryz.f90 [.pointer (some ⟨b4,0,none⟩),.pointer (some ⟨b5,0,none⟩)] S
     (fun c:Int=>[ji bc c,.blk b4 (.cells #[.int .i64 deep] dw),.blk b5 (.cells #[.pointer (some ⟨bc,0,none⟩)] lN)]) (fun c=>0<=c/\c<=120)
     (fun c t=>(!(fx t (deep+1) c).1,(fx t (deep+1) c).2)) (fun v x=>∃ cs,v=.agg cs.toArray/\RdT S cs x) ks:=by
    refine ⟨EG,ED,fun st x _ hst hf=>?_,fun st x v hx hst=>?_⟩
    ·have:=Fq x (deep+1) st hst.2 (by simpa using hf)
     omega
    ·rintro ⟨cs,rfl,hcs⟩ w1 hI
     have hl:=hcs.length
     refine xw ?_
     unfold u3
     refine bN hI fun b w' hI=>?_
     refine aO hI 3 ag rfl (by simpa [Value.cells] using hl) ?_
     refine bB hI 1 bg rfl rfl ?_
     refine bR (by omega) ?_
     refine bB hI 2 Cn rfl rfl ?_
     have hI:=hI.perm (M:=[.blk b4 (.cells #[.int .i64 deep] dw),.blk b5 (.cells #[.pointer (some ⟨bc,0,none⟩)] lN),.blk b (.cells (Value.agg cs.toArray).cells ab)]++[ji bc st])
      (List.perm_append_comm (l₁:=[_,_,_]) (l₂:=[ji bc st]))
     refine Run.call Bp A2 hI (ih x hx S cs (deep+1) st bc hcs (by omega) (by omega) hst.1 hst.2) fun v' I' S' w'=>?_
     rintro ⟨rfl,rfl,rfl⟩ _ hI
     refine cN ?_
     have hI:=(hI.perm (M:=[ji bc (fx x (deep+1) st).2]++[.blk b4 (.cells #[.int .i64 deep] dw),.blk b5 (.cells #[.pointer (some ⟨bc,0,none⟩)] lN),.blk b (.cells (Value.agg cs.toArray).cells ab)])
      List.perm_append_comm).pick [true,true,true,false]
     exact ⟨_,_,_,rfl,hI,Ext.refl _ _ _,rfl,rfl,rfl⟩
   have hI:=hI.perm (M:=[.blk b3 (.cells #[.int .i64 k,.int .i64 n,.string s,kv] ab)]++[ji bc (c+1),.blk b4 (.cells #[.int .i64 deep] dw),.blk b5 (.cells #[.pointer (some ⟨bc,0,none⟩)] lN)]) (List.Perm.swap _ _ _)
   refine Run.call fI fJ hI (iY hcb hks ⟨by omega,by omega⟩) fun v' I' S' w'=>?_
   rintro ⟨rfl,rfl,rfl⟩ _ hI
   refine cN ?_
   rw [A8] at hI ⊢
   have hI:=hI.perm (M:=[ji bc (jY ks (deep+1) (c+1)).2,.blk b3 (.cells #[.int .i64 k,.int .i64 n,.string s,kv] ab),.blk b4 (.cells #[.int .i64 deep] dw),.blk b5 (.cells #[.pointer (some ⟨bc,0,none⟩)] lN)]) (List.Perm.swap _ _ _)
   refine hend (jY ks (deep+1) (c+1)) hI (by simp) (hsc _ (by rw [if_neg hk12,if_pos hk3,hb1']; rfl))
 ·exact hend (false,c+1) hI rfl (hsc _ (by rw [if_neg hk12,if_neg hk3]))

theorem gt {t:T} {S:ay} {cs:List Value} (h:RdT S cs t):Pure Tryz.prog AC [.agg cs.toArray] S (.bool (d6 t)):=by
 intro w hI
 have hl:=h.length
 refine sx ?_
 unfold om
 refine bN hI fun b1 w' hI=>?_
 refine a9 hI Lh fun b2 w' hI=>?_
 refine ei hI 1 (n:=1) rfl (by rw [bg]; rfl) rfl (Nat.le_of_ble_eq_true rfl) (by simp [Value.cells]; rfl) fun w' hI=>?_
 refine aO hI 0 ag rfl (by simpa [Value.cells] using hl) ?_
 refine Run.call (A:=[_]) (I:=[ji b2 0]) Bp A2 hI (Gp t S cs 1 0 b2 h (by omega) (by omega) (by omega) (by omega)) fun v' I' S' w'=>?_
 rintro ⟨rfl,rfl,rfl⟩ _ hI
 exact done hI (by rw [GC])

end Go.Proofs.YtnmnddpdikghhaaGreat
