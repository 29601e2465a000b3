/- Data that a function has made for itself: trees of blocks that nobody else knows. -/
import Derived.Test.YtemmhhdnlbmicaaGreatZMfS
import Derived.Test.YtemmhhdnlbmicaaGreatZMfF
import Derived.Test.YtemmhhdnlbmicaaGreatZMfh1
namespace Go.Proofs.YtemmhhdnlbmicaaGreat
open Go Go.RowKit
attribute [local irreducible] Run CondV ag a4

abbrev bl:=List (Nat × Obj)
def bB (L:bl):List Item:=L.map fun p=>.blk p.1 p.2
theorem dU (L M:bl):bB (L++M)=bB L++bB M:=by simp [bB]
def Ins (S:av) (L:bl):Prop:=∀ p∈L,S p.1=some p.2
theorem Ins.mono {S S':av} {L:bl} (h:Ins S L) (hs:Sle S S'):Ins S' L:=fun p hp=>hs _ _ (h p hp)
theorem Ins.left {S:av} {L M:bl} (h:Ins S (L++M)):Ins S L:=fun p hp=>h p (List.mem_append_left _ hp)
theorem Ins.right {S:av} {L M:bl} (h:Ins S (L++M)):Ins S M:=fun p hp=>h p (List.mem_append_right _ hp)
theorem gk {L:bl} {b:Nat}:b∈bF (bB L)↔∃ p∈L,p.1=b:=by
 simp only [bF,bB,List.mem_flatMap,List.mem_map]
 constructor
 ·rintro ⟨it,⟨p,hp,rfl⟩,hb⟩
  simp only [Item.foot,List.mem_singleton] at hb
  exact ⟨p,hp,hb.symm⟩
 ·rintro ⟨p,hp,rfl⟩
  exact ⟨_,⟨p,hp,rfl⟩,by simp [Item.foot]⟩

theorem Inv.publishAll {w0 w:World} {X:List Nat} {A:List Item}:∀ (L:bl) {S:av},Inv w0 X (A++bB L) S w->
  ∃ S',Inv w0 X A S' w/\Sle S S'/\Ins S' L/\∀ b o,S' b=some o->S b=some o ∨ b∈bF (bB L)
 | [],S,h=>⟨S,by simpa [bB] using h,Sle.refl S,by intro p hp; simp at hp,fun b o hb=>.inl hb⟩
 | p::L,S,h=>by
  have hi:(A++bB (p::L))[A.length]?=some (.blk p.1 p.2):=by simp [bB]
  obtain ⟨h1,h2⟩:=h.publish hi
  have he:(A++bB (p::L)).eraseIdx A.length=A++bB L:=by simp [bB,List.eraseIdx_append_of_length_le]
  rw [he] at h1
  obtain ⟨S',h3,h4,h5,h6⟩:=publishAll L h1
  refine ⟨S',h3,h2.trans h4,fun q hq=>?_,fun b o hb=>?_⟩
  ·rcases List.mem_cons.1 hq with rfl|hq
   ·exact h4 _ _ (by simp [gz])
   ·exact h5 q hq
  ·rcases h6 b o hb with h7|h7
   ·simp only [gz] at h7
    split at h7
    ·rename_i e; right; rw [gk]; exact ⟨p,List.mem_cons_self ..,e.symm⟩
    ·exact .inl h7
   ·right
    obtain ⟨q,hq,e⟩:=gk.1 h7
    exact gk.2 ⟨q,List.mem_cons_of_mem _ hq,e⟩

/- a slice of elements, its array and all behind it being the function's own -/
def TrSl {α:Type} (k:Nat) (R:bl->List Value->α->Prop) (L:bl) (v:Value) (xs:List α):Prop:=
 ∃ a cap,v=.slice a xs.length cap/\xs.length<=cap/\cap<=maxLen/\
  ((xs=[]/\L=[]) ∨ ∃ b c E,∃ Ls:List bl,a=some ⟨b,0,none⟩/\L=(b,.cells c E)::Ls.flatten/\Ls.length=xs.length/\cap * k<=c.size/\
   ∀ i (h:i<xs.length) (h':i<Ls.length),R Ls[i] (bf c (i * k) k) xs[i])
inductive TrT:bl->List Value->T->Prop
 | nil {k n:Int} {s:ByteArray} {a:Option Addr} {cap:Nat} (hk:inI k) (hn:inI n) (hs:s.size<=maxLen) (hc:cap<=maxLen) :
   TrT [] [.int .i64 k,.int .i64 n,.string s,.slice a 0 cap] (.mk k n s [])
 | cons {k n:Int} {s:ByteArray} {kids:List T} {b cap:Nat} {c:Array Value} {E:TypeId} {Ls:List bl} (hk:inI k) (hn:inI n) (hs:s.size<=maxLen) (hl:kids.length<=cap) (hc:cap<=maxLen)
   (hLs:Ls.length=kids.length) (hsz:cap * 4<=c.size) (h:∀ i (h:i<kids.length) (h':i<Ls.length),TrT Ls[i] (bf c (i * 4) 4) kids[i]) :
   TrT ((b,.cells c E)::Ls.flatten) [.int .i64 k,.int .i64 n,.string s,.slice (some ⟨b,0,none⟩) kids.length cap] (.mk k n s kids)
theorem TrT.iff {L:bl} {cs:List Value} {t:T}:TrT L cs t ↔
  ∃ ks,cs=[.int .i64 t.kind,.int .i64 t.n,.string t.name,ks]/\inI t.kind/\inI t.n/\t.name.size<=maxLen/\TrSl 4 TrT L ks t.kids:=by
 constructor
 ·intro h
  cases h with
  | nil hk hn hs hc=>exact ⟨_,rfl,hk,hn,hs,_,_,rfl,Nat.zero_le _,hc,.inl ⟨rfl,rfl⟩⟩
  | cons hk hn hs hl hc hLs hsz h=>exact ⟨_,rfl,hk,hn,hs,_,_,rfl,hl,hc,.inr ⟨_,_,_,_,rfl,rfl,hLs,hsz,h⟩⟩
 ·obtain ⟨k,n,s,kids⟩:=t
  rintro ⟨ks,rfl,hk,hn,hs,a,cap,rfl,hl,hc,h⟩
  rcases h with ⟨h,rfl⟩|⟨b,c,E,Ls,rfl,rfl,hLs,hsz,h⟩
  ·simp only [T.kids] at h
   subst h
   exact TrT.nil hk hn hs hc
  ·exact TrT.cons hk hn hs hl hc hLs hsz h
theorem TrT.length {L:bl} {cs:List Value} {t:T} (h:TrT L cs t):cs.length=4:=by
 obtain ⟨ks,rfl,_⟩:=TrT.iff.1 h; rfl
theorem TrT.one {L:bl} {cs:List Value} {t:T} (h:TrT L cs t):∀ u∈cs,u.oneCell'=true:=by
 obtain ⟨ks,rfl,_,_,_,a,cap,rfl,_⟩:=TrT.iff.1 h
 intro u hu
 simp at hu
 rcases hu with rfl|rfl|rfl|rfl <;> rfl
theorem RdT.one {S:av} {cs:List Value} {t:T} (h:RdT S cs t):∀ u∈cs,u.oneCell'=true:=by
 obtain ⟨ks,rfl,_,_,_,a,cap,rfl,_⟩:=RdT.iff.1 h
 intro u hu
 simp at hu
 rcases hu with rfl|rfl|rfl|rfl <;> rfl
theorem yK {S:av} {Ls:List bl} (h:Ins S Ls.flatten) {i:Nat} (hi:i<Ls.length):Ins S Ls[i]:=
 fun p hp=>h p (List.mem_flatten.2 ⟨_,List.getElem_mem hi,hp⟩)
theorem TrSl.rd {α:Type} {S:av} {k:Nat} {R:bl->List Value->α->Prop} {R':List Value->α->Prop} {L:bl} {v:Value} {xs:List α} (h:TrSl k R L v xs) (hi:Ins S L)
  (hR:∀ L cs x,Ins S L->R L cs x->R' cs x):RdSl S k R' v xs:=by
 obtain ⟨a,cap,rfl,hl,hc,h⟩:=h
 refine ⟨a,cap,rfl,hl,hc,?_⟩
 rcases h with ⟨h,_⟩|⟨b,c,E,Ls,rfl,rfl,hLs,hsz,h⟩
 ·exact .inl h
 ·refine .inr ⟨b,0,c,E,(0,0),rfl,hi _ (List.mem_cons_self ..),fun i h1=>?_⟩
  rw [Nat.zero_add]
  exact hR _ _ _ (yK (fun p hp=>hi p (List.mem_cons_of_mem _ hp)) (by omega)) (h i h1 (by omega))
theorem TrT.rd {S:av} {L:bl} {cs:List Value} {t:T} (h:TrT L cs t) (hi:Ins S L):RdT S cs t:=by
 induction h with
 | nil hk hn hs hc=>exact RdT.nil hk hn hs hc
 | cons hk hn hs hl hc hLs hsz h ih=>
  refine RdT.cons hk hn hs hl hc (hi _ (List.mem_cons_self ..)) (o:=0) fun i h1=>?_
  rw [Nat.zero_add]
  exact ih i h1 (by omega) (yK (fun p hp=>hi p (List.mem_cons_of_mem _ hp)) (by omega))
def TrC (L:bl) (cs:List Value) (c:C):Prop:=∃ hd ks L1 L2,cs=hd++[ks]/\L=L1++L2/\TrT L1 hd c.head/\TrSl 4 TrT L2 ks c.body
theorem TrC.rd {S:av} {L:bl} {cs:List Value} {c:C} (h:TrC L cs c) (hi:Ins S L):RdC S cs c:=by
 obtain ⟨hd,ks,L1,L2,rfl,rfl,h1,h2⟩:=h
 exact ⟨hd,ks,rfl,h1.rd hi.left,h2.rd hi.right fun _ _ _ hi h=>h.rd hi⟩
theorem TrC.length {L:bl} {cs:List Value} {c:C} (h:TrC L cs c):cs.length=5:=by
 obtain ⟨hd,ks,L1,L2,rfl,rfl,h1,h2⟩:=h; simp [h1.length]
theorem TrC.one {L:bl} {cs:List Value} {c:C} (h:TrC L cs c):∀ u∈cs,u.oneCell'=true:=by
 obtain ⟨hd,ks,L1,L2,rfl,rfl,h1,a,cap,rfl,_⟩:=h
 intro u hu
 rcases List.mem_append.1 hu with hu|hu
 ·exact h1.one u hu
 ·simp at hu; subst hu; rfl

section
variable {P:Program} {w w0:World} {X:List Nat} {L:List Item} {S:av} {K:Value->World->Prop}
theorem Run.call0 {f:FuncId} {fn:Func} {args:List Value} {Post:Value->List Item->av->Prop}
  (hf:P.funcs[f]?=some fn) (hn:(fn.name == "runtime.NumGoroutine" || fn.body.isNone)=false) (h:Inv w0 X L S w) (hc:Tri P f args [] S Post)
  (hk:∀ v I' S' w',Post v I' S'->Sle S S'->Inv w0 X (L++I') S' w'->K v w'):Run P (aH (.func (.func f) #[] #[]) args) w K:=
 Run.call (A:=L) (I:=[]) hf hn (by simpa using h) hc hk
/- x.f = v, x a struct in a block of the function's own -/
theorem jy {T U ty ty' E:TypeId} {f d b:Nat} {c:Array Value} {v:Value} (hI:Inv w0 X L S w) (i:Nat) (hi:L[i]?=some (.blk b (.cells c E))) (hf:ei P T f=some d) (hU:ma P U=true) (hlt:Nat.blt d c.size=true)
  (hv:v.cells=#[v]) (h1:v.oneCell'=true)
  (hk:∀ w',Inv w0 X (L.set i (.blk b (.cells (c.setIfInBounds d v) E))) S w'->K undef w') :
  Run P (sOp (.fieldAddr T (.const (.pointer (some ⟨b,0,none⟩))) f) ty) w fun q w'=>Run P (sOp (.store U (.const q) (.const v)) ty') w' K:=by
 have hlt:d<c.size:=by simpa [Nat.blt_eq] using hlt
 refine bo hf ?_
 rw [Nat.zero_add]
 refine fW hI i (n:=1) (by rw [hv]; rfl) (by rw [hU]; rfl) hi (by omega) (by rw [hv]; simpa using h1) fun w' hI'=>hk w' ?_
 have:cc c d v.cells.toList=c.setIfInBounds d v:=by
  rw [hv]
  apply Array.toList_inj.1
  simp only [cc,Array.toList_setIfInBounds]
  have hl:d<c.toList.length:=by simpa using hlt
  rw [List.set_eq_take_append_cons_drop,if_pos hl]
  simp
 rw [this] at hI'
 exact hI'
theorem yR {T ty E:TypeId} {o b n:Nat} {c:Array Value} {v:Value} (hI:Inv w0 X L S w) (i:Nat) (hi:L[i]?=some (.blk b (.cells c E))) (hT:qf P T=some n) (hn:v.cells.size=n) (hfit:Nat.ble (o+n) c.size=true)
  (h1:∀ u∈v.cells.toList,u.oneCell'=true) (hk:∀ w',Inv w0 X (L.set i (.blk b (.cells (cc c o v.cells.toList) E))) S w'->K undef w') :
  Run P (sOp (.store T (.const (.pointer (some ⟨b,o,none⟩))) (.const v)) ty) w K:=
 fW hI i hn (by rw [hT]; simp) hi (Nat.le_of_ble_eq_true hfit) h1 hk
/- x = v, x a whole block of the function's own -/
theorem bd {T ty E:TypeId} {b n:Nat} {c cs:Array Value} (hI:Inv w0 X L S w) (i:Nat) (hi:L[i]?=some (.blk b (.cells c E))) (hT:qf P T=some n) (hn:cs.size=n) (hc:c.size=n)
  (h1:∀ u∈cs.toList,u.oneCell'=true) (hk:∀ w',Inv w0 X (L.set i (.blk b (.cells cs E))) S w'->K undef w') :
  Run P (sOp (.store T (.const (.pointer (some ⟨b,0,none⟩))) (.const (.agg cs))) ty) w K:=by
 refine fW hI i (v:=.agg cs) (n:=n) hn (by rw [hT]; simp) hi (by omega) h1 fun w' hI'=>hk w' ?_
 have:cc c 0 (Value.agg cs).cells.toList=cs:=by
  rw [o5 _ _ (by simp [Value.cells,hn,hc])]
  simp [Value.cells]
 rw [this] at hI'
 exact hI'
/- s[i] = v, s a slice of the function's own that begins at its block's head -/
end

theorem TrSl.nil {α:Type} {k:Nat} {R:bl->List Value->α->Prop} {a:Option Addr} {cap:Nat} (hc:cap<=maxLen):TrSl k R [] (.slice a 0 cap) ([]:List α):=
 ⟨a,cap,rfl,Nat.zero_le _,hc,.inl ⟨rfl,rfl⟩⟩
/- the first k' elements of an array under construction -/
def Part {α:Type} (k:Nat) (R:bl->List Value->α->Prop) (c:Array Value) (Ls:List bl) (xs:List α):Prop:=
 Ls.length=xs.length/\∀ i (h:i<xs.length) (h':i<Ls.length),R Ls[i] (bf c (i * k) k) xs[i]
theorem Part.nil {α:Type} (k:Nat) (R:bl->List Value->α->Prop) (c:Array Value):Part k R c [] ([]:List α):=⟨rfl,fun i h=>by simp at h⟩
theorem Part.snoc {α:Type} {k:Nat} {R:bl->List Value->α->Prop} {c:Array Value} {Ls:List bl} {xs:List α} (h:Part k R c Ls xs) {cs:List Value} {L:bl} {x:α} (hx:R L cs x) (hl:cs.length=k)
  (hfit:(xs.length+1) * k<=c.size):Part k R (cc c (xs.length * k) cs) (Ls++[L]) (xs++[x]):=by
 have hf:xs.length * k+cs.length<=c.size:=by rw [hl]; rw [Nat.add_mul,Nat.one_mul] at hfit; exact hfit
 refine ⟨by simp [h.1],fun i h1 h2=>?_⟩
 by_cases hi:i<xs.length
 ·have h3:i<Ls.length:=by rw [h.1]; exact hi
  rw [List.getElem_append_left h3,List.getElem_append_left hi,eh hf]
  ·exact h.2 i hi h3
  ·left
   have:(i+1) * k<=xs.length * k:=Nat.mul_le_mul_right _ hi
   rw [Nat.add_mul,Nat.one_mul] at this
   exact this
 ·have hi':i=xs.length:=by simp at h1; omega
  subst hi'
  have h3:xs.length=Ls.length:=h.1.symm
  rw [List.getElem_append_right (by omega),List.getElem_append_right (by omega)]
  simp only [h3,Nat.sub_self,List.getElem_cons_zero]
  rw [<- h3,<- hl,fj (by rw [hl] at hf ⊢; exact hf)]
  exact hx
theorem Part.sl {α:Type} {k:Nat} {R:bl->List Value->α->Prop} {b:Nat} {c:Array Value} {E:TypeId} {Ls:List bl} {xs:List α} {cap:Nat} (h:Part k R c Ls xs) (h1:xs.length<=cap) (h2:cap<=maxLen) (h3:cap * k<=c.size) :
  TrSl k R ((b,.cells c E)::Ls.flatten) (.slice (some ⟨b,0,none⟩) xs.length cap) xs:=
 ⟨_,cap,rfl,h1,h2,.inr ⟨b,c,E,Ls,rfl,rfl,h.1,h3,h.2⟩⟩

end Go.Proofs.YtemmhhdnlbmicaaGreat

/- 'and', 'or' as the code has them; slices of strings; a list made of constants. -/
namespace Go.Proofs.YtemmhhdnlbmicaaGreat
open Go Go.RowKit
section
variable {P:Program} {w:World} {K:Value->World->Prop} {ty:TypeId}
theorem ac {b:Bool} {A B:Prop} (h:A):ag (.bool b) b A B:=by unfold ag; simp only [if_true]; exact h
theorem af {c b:Bool} {A B:Prop} (hc:c≠b) (h:B):ag (.bool c) b A B:=by unfold ag; simp only [if_neg hc]; exact h
attribute [local irreducible] Run CondV ag a4
theorem gE {a:Bool} {v:Value} {A:Prop} (ht:a=true->A) (hf:a=false->K (.bool false) w):ag (.bool a) true A (Run P (sOp (.pick (.const (.bool a)) (.const v) (.const (.bool false))) ty) w K):=
 Ck ht fun h=>by
  have h':a=false:=by simpa using h
  refine kX ?_
  rw [h']
  exact hf h'
theorem fm {a:Bool} {v u:Value} (ha:a=true) (hk:K v w):Run P (sOp (.pick (.const (.bool a)) (.const v) (.const u)) ty) w K:=by
 refine kX ?_
 rw [ha]
 exact hk
theorem jX {v:Value} {A:Prop} (hk:K (.bool false) w):ag (.bool false) true A (Run P (sOp (.pick (.const (.bool false)) (.const v) (.const (.bool false))) ty) w K):=
 gE (fun h=>by cases h) fun _=>hk
theorem yw {a:Bool} {v:Value} {A:Prop} (ht:a=true->K (.bool true) w) (hf:a=false->A):ag (.bool a) false A (Run P (sOp (.pick (.const (.bool a)) (.const (.bool true)) (.const v)) ty) w K):=
 Ck hf fun h=>by
  have h':a=true:=by simpa using h
  refine kX ?_
  rw [h']
  exact ht h'
theorem rz {a:Bool} {v u:Value} (ha:a=false) (hk:K v w):Run P (sOp (.pick (.const (.bool a)) (.const u) (.const v)) ty) w K:=by
 refine kX ?_
 rw [ha]
 exact hk
theorem Hh {v:Value} {A:Prop} (hk:K (.bool true) w):ag (.bool true) false A (Run P (sOp (.pick (.const (.bool true)) (.const (.bool true)) (.const v)) ty) w K):=
 yw (fun _=>hk) fun h=>by cases h
end

def mC (cs:List Value) (s:ByteArray):Prop:=cs=[.string s]
def CR (cs:List Value) (n:Int):Prop:=cs=[.int .i64 n]
section
variable {P:Program} {w w0:World} {X:List Nat} {L:List Item} {S:av} {K:Value->World->Prop}
attribute [local irreducible] Run CondV ag a4
/- an operation whose run is known in every world: it makes one block -/
theorem qi (h:Inv w0 X L S w) {s:Sem Next} {v:Nat->Value} {o:Obj} (hr:s.run P w=.ok (.value (v w.heap.size)) { w with heap:=w.heap.push o })
  (hk:∀ b w',Inv w0 X (L++[.blk b o]) S w'->K (v b) w'):Run P s w K:=Run.of hr (hk _ _ (h.alloc o))
/- the last item is published -/
theorem Inv.publishLast {b:Nat} {o:Obj} (h:Inv w0 X (L++[.blk b o]) S w):Inv w0 X L (gz S b o) w/\Sle S (gz S b o):=by
 have hi:(L++[Item.blk b o])[L.length]?=some (.blk b o):=by simp
 have:=h.publish hi
 rwa [show (L++[Item.blk b o]).eraseIdx L.length=L by simp [List.eraseIdx_append_of_length_le]] at this
/- s[i] of a slice of one-cell elements -/
theorem jO {α:Type} {T U ty ty' E:TypeId} {R:List Value->α->Prop} {v u:Value} {xs:List α} (hI:Inv w0 X L S w) (h:RdSl S 1 R v xs) (hu:c8 P T=some (E,1)) (hU:ma P U=true)
  {i:Nat} (hi:i<xs.length) (hR:∀ cs,R cs xs[i]->cs=[u]) (hk:K u w) :
  Run P (sOp (.indexAddr T (.const v) (.const (.int .i64 i))) ty) w fun p w'=>Run P (sOp (.load U (.const p)) ty') w' K:=by
 obtain ⟨b,o,cap,c,E',fz,rfl,hS,hr⟩:=h.at_ hi
 refine ba hu hi ?_
 refine eo hU ?_ hk
 rw [hI.cellS hS]
 exact be (hR _ hr) 0 u rfl
end
theorem RdSl.ofCells {α:Type} {S:av} {R:List Value->α->Prop} {b n:Nat} {c:Array Value} {E:TypeId} {fz:Nat × Nat} {xs:List α} (hS:S b=some (.cells c E fz)) (hn:xs.length=n) (hm:n<=maxLen)
  (h:∀ i (h:i<xs.length),R (bf c i 1) xs[i]):RdSl S 1 R (.slice (some ⟨b,0,none⟩) n n) xs:=by
 subst hn
 exact ⟨_,_,rfl,Nat.le_refl _,hm,.inr ⟨b,0,c,E,fz,rfl,hS,fun i hi=>by rw [Nat.zero_add,Nat.mul_one]; exact h i hi⟩⟩

end Go.Proofs.YtemmhhdnlbmicaaGreat

/- Which terms are valid: the two ways of saying it, and that they agree. No program in sight. -/
namespace Go.Proofs.YtemmhhdnlbmicaaGreat
open Go

def signs:List ByteArray:=[⟨#[43]⟩,⟨#[45]⟩,⟨#[42]⟩,⟨#[47,47]⟩,⟨#[61]⟩,⟨#[92,61]⟩,⟨#[61,61]⟩,⟨#[60]⟩,⟨#[62]⟩,⟨#[61,60]⟩,⟨#[62,61]⟩,⟨#[61,58,61]⟩,⟨#[46]⟩,⟨#[91,93]⟩,⟨#[33]⟩]
def lK (b:UInt8):Bool:=decide (97<=b.toNat) && decide (b.toNat<=122)
def lA (s:ByteArray):Bool:=s.data.toList.all lK
def kw (s:ByteArray):Bool:=lA s && (decide (1<=s.size) && decide (s.size<=6))
def jq (s:ByteArray):Bool:=kw s || signs.any fun x=>decide (x=s)
def emptyB:ByteArray:=⟨#[]⟩
def dE (t:T):Bool:=
 if t.kind=1 then decide (0<=t.n) && (decide (t.n<=25) && (decide (t.name=emptyB) && decide (t.kids.length=0)))
 else if t.kind=2 then decide (-999<=t.n) && (decide (t.n<=999) && (decide (t.name=emptyB) && decide (t.kids.length=0)))
 else if t.kind=3 then decide (t.n=0) && (jq t.name && decide (t.kids.length<=4))
 else false
mutual
def dK:T->Int->Bool
 | .mk k n s ks,d=>if d<1 then false else dE (.mk k n s ks) && dF ks (d - 1)
def dF:List T->Int->Bool
 | [],_=>true
 | t::ts,d=>dK t d && dF ts d
end
mutual
def dV:T->Int
 | .mk _ _ _ ks=>1+dH ks
def dH:List T->Int
 | []=>0
 | t::ts=>dV t+dH ts
end
/- the count that stops -/
mutual
def gF:T->Int->Int
 | .mk _ _ _ ks,most=>eZ ks 1 most
def eZ:List T->Int->Int->Int
 | [],n,_=>n
 | t::ts,n,most=>if n<=most then eZ ts (n+gF t (most - n)) most else n
end
def dd (t:T):Bool:=dK t 30 && decide (dV t<=120)

mutual
theorem oM:∀ t:T,1<=dV t
 | .mk _ _ _ ks=>by simp only [dV]; have:=fy ks; omega
theorem fy:∀ ts:List T,0<=dH ts
 | []=>by simp [dH]
 | t::ts=>by simp only [dH]; have:=oM t; have:=fy ts; omega
end
mutual
theorem pT:∀ (t:T) (most:Int),0<=most->(dV t<=most->gF t most=dV t)/\(most<dV t->most<gF t most/\gF t most<=dV t)
 | .mk _ _ _ ks,most,h=>by
  simp only [dV,gF]
  have:=wl ks 1 most h (by omega)
  exact this
theorem wl:∀ (ts:List T) (n most:Int),0<=most->1<=n->(n+dH ts<=most->eZ ts n most=n+dH ts)/\(most<n+dH ts->most<eZ ts n most/\eZ ts n most<=n+dH ts)
 | [],n,most,h,h1=>by
  simp only [dH,eZ]
  exact ⟨fun _=>by omega,fun _=>by omega⟩
 | t::ts,n,most,h,h1=>by
  simp only [dH,eZ]
  have hp:=oM t
  have hl:=fy ts
  by_cases hn:n<=most
  ·rw [if_pos hn]
   have ht:=pT t (most - n) (by omega)
   by_cases hc:dV t<=most - n
   ·rw [ht.1 hc]
    have hr:=wl ts (n+dV t) most h (by omega)
    exact ⟨fun h2=>by rw [hr.1 (by omega)]; omega,fun h2=>by have:=hr.2 (by omega); omega⟩
   ·have h3:=ht.2 (by omega)
    have h4:eZ ts (n+gF t (most - n)) most=n+gF t (most - n):=by
     cases ts with
     | nil=>rfl
     | cons u us=>rw [eZ,if_neg (by omega)]
    rw [h4]
    exact ⟨fun h2=>by omega,fun h2=>by omega⟩
  ·rw [if_neg hn]
   exact ⟨fun h2=>by omega,fun h2=>by omega⟩
end
theorem Dm (t:T):decide (gF t 120<=120)=decide (dV t<=120):=by
 have h:=pT t 120 (by omega)
 by_cases hc:dV t<=120
 ·rw [h.1 hc]
 ·have:=h.2 (by omega)
  rw [decide_eq_false (by omega),decide_eq_false hc]

/- the scan: it counts as it goes -/
mutual
def ey:T->Int->Int->Bool × Int
 | .mk k n s ks,deep,c=>
  if 120<c+1 ∨ 30<deep then (false,c+1)
  else if k=1 ∨ k=2 then (dE (.mk k n s ks),c+1)
  else if k=3 then (if dE (.mk k n s ks) then ie ks (deep+1) (c+1) else (false,c+1))
  else (false,c+1)
def ie:List T->Int->Int->Bool × Int
 | [],_,c=>(true,c)
 | t::ts,deep,c=>if (ey t deep c).1 then ie ts deep (ey t deep c).2 else (false,(ey t deep c).2)
end
theorem Ai {k n:Int} {s:ByteArray} {ks:List T} (h:dE (.mk k n s ks)=true) (hk:k=1 ∨ k=2):ks=[]:=by
 unfold dE at h
 simp only [T.kind,T.n,T.name,T.kids] at h
 rcases hk with rfl|rfl <;> simp at h <;> exact h.2.2.2
theorem Ee {k n:Int} {s:ByteArray} {ks:List T} (h:dE (.mk k n s ks)=true):k=1 ∨ k=2 ∨ k=3:=by
 unfold dE at h
 simp only [T.kind,T.n,T.name,T.kids] at h
 by_cases h1:k=1
 ·exact .inl h1
 ·by_cases h2:k=2
  ·exact .inr (.inl h2)
  ·by_cases h3:k=3
   ·exact .inr (.inr h3)
   ·simp [h1,h2,h3] at h
mutual
theorem tg:∀ (t:T) (deep c:Int),(ey t deep c).1=(dK t (31 - deep) && decide (c+dV t<=120))/\((ey t deep c).1=true->(ey t deep c).2=c+dV t)
 | .mk k n s ks,deep,c=>by
  have hl:=fy ks
  rw [show dV (T.mk k n s ks)=1+dH ks from rfl]
  simp only [ey,dK]
  by_cases h1:120<c+1 ∨ 30<deep
  ·rw [if_pos h1]
   refine ⟨?_,fun h=>by cases h⟩
   rcases h1 with h1|h1
   ·rw [decide_eq_false (show ¬ (c+(1+dH ks)<=120) by omega),Bool.and_false]
   ·rw [if_pos (show 31 - deep<1 by omega)]; rfl
  ·rw [if_neg h1,if_neg (show ¬ (31 - deep<1) by omega)]
   by_cases h2:k=1 ∨ k=2
   ·rw [if_pos h2]
    cases ho:dE (.mk k n s ks) with
    | false=>exact ⟨rfl,fun h=>by cases h⟩
    | true=>
     have:=Ai ho h2
     subst this
     rw [show dH []=0 from rfl]
     simp only [dF,Bool.true_and]
     exact ⟨by rw [decide_eq_true (show c+(1+0)<=120 by omega)],fun _=>by omega⟩
   ·rw [if_neg h2]
    by_cases h3:k=3
    ·rw [if_pos h3]
     cases ho:dE (.mk k n s ks) with
     | false=>exact ⟨rfl,fun h=>by cases h⟩
     | true=>
      simp only [if_true,Bool.true_and]
      have:=zy ks (deep+1) (c+1)
      rw [show 31 - (deep+1)=31 - deep - 1 by omega] at this
      rw [show c+(1+dH ks)=c+1+dH ks by omega]
      refine ⟨?_,this.2⟩
      rw [this.1]
      cases ks with
      | nil=>rw [show dH []=0 from rfl,decide_eq_true (show c+1+0<=120 by omega)]; rfl
      | cons t ts=>simp
    ·rw [if_neg h3]
     have ho:dE (.mk k n s ks)=false:=by
      rw [<- Bool.not_eq_true]
      intro h
      rcases Ee h with e|e|e
      ·exact h2 (.inl e)
      ·exact h2 (.inr e)
      ·exact h3 e
     rw [ho]
     exact ⟨rfl,fun h=>by cases h⟩
theorem zy:∀ (ts:List T) (deep c:Int),(ie ts deep c).1=(dF ts (31 - deep) && (ts.isEmpty || decide (c+dH ts<=120)))/\((ie ts deep c).1=true->(ie ts deep c).2=c+dH ts)
 | [],deep,c=>by simp [ie,dF,dH]
 | t::ts,deep,c=>by
  have ht:=tg t deep c
  have hp:=fy ts
  rw [show dH (t::ts)=dV t+dH ts from rfl]
  simp only [ie,dF,List.isEmpty_cons,Bool.false_or]
  cases h1:(ey t deep c).1 with
  | false=>
   rw [h1] at ht
   have h2:=ht.1
   refine ⟨?_,fun h=>by cases h⟩
   simp only [Bool.false_eq_true,if_false]
   cases hs:dK t (31 - deep) with
   | false=>rfl
   | true=>
    rw [hs,Bool.true_and] at h2
    have:¬ (c+dV t<=120):=of_decide_eq_false h2.symm
    rw [decide_eq_false (show ¬ (c+(dV t+dH ts)<=120) by omega),Bool.and_false]
  | true=>
   rw [h1] at ht
   have h2:=ht.1
   have h3:=ht.2 rfl
   simp only [if_true]
   rw [h3]
   have hs:dK t (31 - deep)=true/\c+dV t<=120:=by
    have:=h2.symm
    simpa using this
   have hl:=zy ts deep (c+dV t)
   rw [show c+(dV t+dH ts)=c+dV t+dH ts by omega]
   refine ⟨?_,hl.2⟩
   rw [hl.1,hs.1,Bool.true_and]
   cases ts with
   | nil=>rw [show dH []=0 from rfl,decide_eq_true (show c+dV t+0<=120 by omega)]; rfl
   | cons u us=>simp
end
theorem BR (t:T):(ey t 1 0).1=dd t:=by
 rw [(tg t 1 0).1,dd]
 simp

end Go.Proofs.YtemmhhdnlbmicaaGreat

/- laws.toTerm and its kin: a copy in memory of its own. -/
namespace Go.Proofs.YtemmhhdnlbmicaaGreat
open Go Go.RowKit
attribute [local irreducible] Run CondV ag a4

mutual
def wT:T->Nat
 | .mk _ _ s ks=>s.size+ks.length+wL ks
def wL:List T->Nat
 | []=>0
 | t::ts=>wT t+wL ts
end
theorem i0:∀ {ts:List T} {t:T},t∈ts->wT t<=wL ts
 | x::xs,t,h=>by
  simp only [wL]
  rcases List.mem_cons.1 h with rfl|h
  ·omega
  ·have:=i0 h; omega

abbrev uL {α:Type} (k:Nat) (R:bl->List Value->α->Prop) (S:av) (xs:List α):Value->List Item->av->Prop:=
 fun v I' S'=>S'=S/\∃ L,I'=bB L/\TrSl k R L v xs
abbrev zT (S:av) (t:T):Value->List Item->av->Prop:=fun v I' S'=>S'=S/\∃ cs L,v=.agg cs.toArray/\I'=bB L/\TrT L cs t

def wC (c:C):Nat:=wT c.head+c.body.length+wL c.body
def wP:List C->Nat
 | []=>0
 | c::cs=>wC c+wP cs
theorem BA:∀ {cs:List C} {c:C},c∈cs->wC c<=wP cs
 | x::xs,c,h=>by
  simp only [wP]
  rcases List.mem_cons.1 h with rfl|h
  ·omega
  ·have:=BA h; omega
abbrev GO (S:av) (c:C):Value->List Item->av->Prop:=fun v I' S'=>S'=S/\∃ cs L,v=.agg cs.toArray/\I'=bB L/\TrC L cs c
end Go.Proofs.YtemmhhdnlbmicaaGreat

/- The reference's TermValid and what it calls. -/
namespace Go.Proofs.YtemmhhdnlbmicaaGreat
open Go Go.RowKit
attribute [local irreducible] Run CondV ag a4

theorem jv {α:Type} (p:α->Bool) (l:List α) (k:Nat) (h:k<l.length):(l.drop k).all p=(p l[k] && (l.drop (k+1)).all p):=by
 rw [List.drop_eq_getElem_cons h,List.all_cons]
theorem sY {α:Type} (p:α->Bool) (l:List α) (k:Nat) (h:k<l.length):(l.drop k).any p=(p l[k] || (l.drop (k+1)).any p):=by
 rw [List.drop_eq_getElem_cons h,List.any_cons]
theorem jx (s:ByteArray):s.data.toList.length=s.size:=by rw [Array.length_toList]; rfl
theorem zg (s:ByteArray) (k:Nat) (h:k<s.size):s.data.toList[k]'(by rw [jx]; exact h)=s[k]:=rfl

theorem oC (s:ByteArray) (hs:s.size<=maxLen) (S:av):Pure Tryz.prog B8 [.string s] S (.bool (kw s)):=by
 intro w hI
 simp only [maxLen] at hs
 refine ue ?_
 unfold qW
 refine ⟨fun i w'=>∃ k:Nat,k<=s.size/\i=.int .i64 k/\(s.data.toList.drop k).all lK=lA s/\Inv w [] [] S w',fun i _=>s.size - (intOf i).toNat,⟨0,Nat.zero_le _,rfl,rfl,hI⟩,?_⟩
 intro t3 _ _ _ _ _ _ _ _ _ _ _ _ _ _ _ _ _ w'
 rintro ⟨k,hk,rfl,hrel,hI⟩
 refine gw a7 ?_
 refine co ?_
 refine bp (fun hki=>?_) (fun hki=>?_)
 ·have hk':k<s.size:=by omega
  have hstep:=jv lK s.data.toList k (by rw [jx]; exact hk')
  rw [zg s k hk'] at hstep
  refine ⟨fun t w'=>t=.bool (!lK s[k])/\Inv w [] [] S w',?_,?_⟩
  ·refine il a7 hk' ?_
   refine co ?_
   refine yw (fun h=>⟨?_,hI⟩) (fun h=>?_)
   ·have h:=of_decide_eq_true h
    rw [lK,decide_eq_false (show ¬ 97<=s[k].toNat by omega)]; rfl
   ·refine il a7 hk' ?_
    refine dS ?_
    refine rz h ⟨?_,hI⟩
    have h:=of_decide_eq_false h
    rw [lK,decide_eq_true (show 97<=s[k].toNat by omega),Bool.true_and]
    by_cases h2:s[k].toNat<=122
    ·rw [decide_eq_true h2,decide_eq_false (by omega)]; rfl
    ·rw [decide_eq_false h2,decide_eq_true (by omega)]; rfl
  intro t _ _ _ _ _ _ _ _ _ w'
  rintro ⟨rfl,hI⟩
  refine aX (fun h=>done hI ?_) (fun h=>?_)
  ·simp at h
   rw [kw,<- hrel,hstep,h]; rfl
  ·simp at h
   refine bC (by omega) ?_
   refine ⟨⟨k+1,hk',rfl,by rw [<- hrel,hstep,h]; rfl,hI⟩,by simp [intOf]; omega⟩
 ·have:k=s.size:=by omega
  subst this
  have hl:lA s=true:=by rw [<- hrel,<- jx,List.drop_length]; rfl
  refine gw a7 ?_
  refine q9 ?_
  refine gE (fun h=>?_) (fun h=>done hI ?_)
  ·refine gw a7 ?_
   refine fI ?_
   refine fm h (done hI ?_)
   have h:=of_decide_eq_true h
   rw [kw,hl,decide_eq_true (show 1<=s.size by omega)]
   by_cases h2:s.size<=6
   ·rw [decide_eq_true h2,decide_eq_true (by omega)]; rfl
   ·rw [decide_eq_false h2,decide_eq_false (by omega)]; rfl
  ·have h:=of_decide_eq_false h
   rw [kw,hl,decide_eq_false (show ¬ 1<=s.size by omega)]; rfl

def pV:Array Value:=(signs.map Value.string).toArray
theorem AP {S:av} {b:Nat} {E:TypeId} (hS:S b=some (.cells pV E)):RdSl S 1 mC (.slice (some ⟨b,0,none⟩) 15 15) signs:=by
 refine RdSl.ofCells hS rfl (by decide) ?_
 intro i hi
 have hi':i<15:=hi
 match i,hi' with
 | 0,_|1,_|2,_|3,_|4,_|5,_|6,_|7,_|8,_|9,_|10,_|11,_|12,_|13,_|14,_=>rfl
abbrev wt (S:av):Value->List Item->av->Prop:=fun v I' S'=>I'=[]/\Sle S S'/\RdSl S' 1 mC v signs
theorem y9 {S:av} {b n:Nat} {o:Obj} (h:n<=b) (hs:Sle S (gz S b o)):Ext n [] S (gz S b o):=
 ⟨hs,fun c o' hc=>by
  simp only [gz] at hc
  split at hc
  ·rename_i e; subst e; exact .inr (.inr h)
  ·exact .inl hc⟩
theorem mE (S:av):Tri Tryz.prog z9 [] [] S (wt S):=by
 intro w hI
 refine rS ?_
 unfold oK
 refine qi (v:=fun b=>.slice (some ⟨b,0,none⟩) 15 15) (o:=.cells pV gv) hI (by kernel_rfl) fun b w' hI=>?_
 have hnew:w.heap.size<=b:=by
  rcases hI.new b (by simp [bF,Item.foot]) with h|h
  ·simp [bF] at h
  ·exact h
 obtain ⟨h1,h2⟩:=Inv.publishLast (L:=[]) hI
 exact ⟨_,_,_,rfl,h1,y9 hnew h2,rfl,h2,AP (by simp [gz]; rfl)⟩
theorem Ae (s:ByteArray) {xs:List ByteArray} {S:av} {v:Value} (h:RdSl S 1 mC v xs):Pure Tryz.prog Dp [v,.string s] S (.bool (xs.any fun x=>decide (x=s))):=by
 intro w hI
 have hlen:=h.le
 simp only [maxLen] at hlen
 refine vX ?_
 unfold tq
 refine ⟨fun i w'=>∃ k:Nat,k<=xs.length/\i=.int .i64 k/\(xs.drop k).any (fun x=>decide (x=s))=xs.any (fun x=>decide (x=s))/\Inv w [] [] S w',fun i _=>xs.length - (intOf i).toNat,⟨0,Nat.zero_le _,rfl,rfl,hI⟩,?_⟩
 intro t3 _ _ _ _ _ _ _ _ _ _ _ _ _ w'
 rintro ⟨k,hk,rfl,hrel,hI⟩
 refine a9 h cg ?_
 refine co ?_
 refine bp (fun hki=>?_) (fun hki=>?_)
 ·have hk':k<xs.length:=by omega
  have hstep:=sY (fun x=>decide (x=s)) xs k hk'
  refine jO hI h cg bi hk' (fun cs hcs=>hcs) ?_
  refine dj ?_
  refine aX (fun he=>done hI ?_) (fun he=>?_)
  ·rw [<- hrel,hstep,he]; rfl
  ·refine bC (by omega) ?_
   exact ⟨⟨k+1,hk',rfl,by rw [<- hrel,hstep,he]; rfl,hI⟩,by simp [intOf]; omega⟩
 ·have:k=xs.length:=by omega
  subst this
  exact done hI (by rw [<- hrel,List.drop_length]; rfl)
/- the end of a reading function that has published something for itself -/
theorem o6 {w w':World} {L:List Item} {S S':av} {r r':Value} (h:Inv w [] L S' w') (hs:Sle S S') (e:r'=r):Ending.returned r'=.returned r/\Inv w [] [] S w':=⟨by rw [e],h.nil.less hs⟩
theorem pM (s:ByteArray) (hs:s.size<=maxLen) (S:av):Pure Tryz.prog vD [.string s] S (.bool (jq s)):=by
 intro w hI
 refine ob ?_
 unfold lB
 refine Run.callPure qN rb hI (oC s hs S) fun w' hI=>?_
 refine yw (fun h=>done hI ?_) (fun h=>?_)
 ·rw [jq,h]; rfl
 ·refine Run.call0 oO nV hI (mE S) fun v' I' S' w'=>?_
  rintro ⟨rfl,_,hr⟩ hle hI
  refine Run.callPure Bt Bp hI (Ae s hr) fun w' hI=>?_
  refine rz h (o6 hI hle ?_)
  rw [jq,h]; rfl

theorem Al {t:T} {S:av} {cs:List Value} (h:RdT S cs t):Pure Tryz.prog Dy [.agg cs.toArray] S (.bool (dE t)):=by
 intro w hI
 obtain ⟨kv,rfl,_,_,hs,hks⟩:=RdT.iff.1 h
 obtain ⟨k,n,s,ks⟩:=t
 simp only [T.name,T.kids,T.kind,T.n] at hs hks ⊢
 refine vK ?_
 unfold sP;dsimp only
 refine ca hI fun b1 w' hI=>?_
 refine az hI 0 rfl bt bj rfl ?_
 refine cw ?_
 refine bp (fun hk=>?_) (fun hk=>?_)
 ·have ho:dE (.mk k n s ks)=(decide (0<=n) && (decide (n<=25) && (decide (s=emptyB) && decide (ks.length=0)))):=by
   rw [dE]; exact if_pos hk
  refine az hI 0 rfl bv bj rfl ?_
  refine q9 ?_
  refine gE (fun h1=>?_) (fun h1=>?_)
  ·refine az hI 0 rfl bv bj rfl ?_
   refine fI ?_
   refine fm h1 ?_
   refine gE (fun h2=>?_) (fun h2=>?_)
   ·refine az hI 0 rfl bk bi rfl ?_
    refine dj ?_
    refine fm h2 ?_
    refine gE (fun h3=>?_) (fun h3=>done hI ?_)
    ·refine az hI 0 rfl aT aS rfl ?_
     refine a9 hks ay ?_
     refine cw ?_
     refine fm h3 (done hI ?_)
     rw [ho,h1,h2,show decide (s=emptyB)=true from h3]
     simp
    ·rw [ho,h1,h2,show decide (s=emptyB)=false from h3]; rfl
   ·refine jX (done hI ?_)
    rw [ho,h1,h2]; rfl
  ·refine jX (jX (done hI ?_))
   rw [ho,h1]; rfl
 refine cw ?_
 refine bp (fun hk2=>?_) (fun hk2=>?_)
 ·have ho:dE (.mk k n s ks)=(decide (-999<=n) && (decide (n<=999) && (decide (s=emptyB) && decide (ks.length=0)))):=by
   rw [dE]; exact (if_neg hk).trans (if_pos hk2)
  refine az hI 0 rfl bv bj rfl ?_
  refine q9 ?_
  refine gE (fun h1=>?_) (fun h1=>?_)
  ·refine az hI 0 rfl bv bj rfl ?_
   refine fI ?_
   refine fm h1 ?_
   refine gE (fun h2=>?_) (fun h2=>?_)
   ·refine az hI 0 rfl bk bi rfl ?_
    refine dj ?_
    refine fm h2 ?_
    refine gE (fun h3=>?_) (fun h3=>done hI ?_)
    ·refine az hI 0 rfl aT aS rfl ?_
     refine a9 hks ay ?_
     refine cw ?_
     refine fm h3 (done hI ?_)
     rw [ho,h1,h2,show decide (s=emptyB)=true from h3]
     simp
    ·rw [ho,h1,h2,show decide (s=emptyB)=false from h3]; rfl
   ·refine jX (done hI ?_)
    rw [ho,h1,h2]; rfl
  ·refine jX (jX (done hI ?_))
   rw [ho,h1]; rfl
 refine cw ?_
 refine bp (fun hk3=>?_) (fun hk3=>done hI ?_)
 ·have ho:dE (.mk k n s ks)=(decide (n=0) && (jq s && decide (ks.length<=4))):=by
   rw [dE]; exact (if_neg hk).trans ((if_neg hk2).trans (if_pos hk3))
  refine az hI 0 rfl bv bj rfl ?_
  refine cw ?_
  refine gE (fun h1=>?_) (fun h1=>?_)
  ·refine az hI 0 rfl bk bi rfl ?_
   refine Run.callPure s8 s6 hI (pM s hs S) fun w' hI=>?_
   refine fm h1 ?_
   refine gE (fun h2=>?_) (fun h2=>done hI ?_)
   ·refine az hI 0 rfl aT aS rfl ?_
    refine a9 hks ay ?_
    refine fI ?_
    refine fm h2 (done hI ?_)
    rw [ho,h1,h2]
    simp
    omega
   ·rw [ho,h1,h2]; rfl
  ·refine jX (done hI ?_)
   rw [ho,h1]; rfl
 ·rw [dE]
  exact congrArg Value.bool ((if_neg hk).trans ((if_neg hk2).trans (if_neg hk3))).symm

theorem uW:∀ (t:T) (S:av) (cs:List Value) (d:Int),RdT S cs t->-1<=d->d<=1000->Pure Tryz.prog z7 [.agg cs.toArray,.int .i64 d] S (.bool (dK t d)):=by
 refine T.ind fun k n s ks ih S cs d h h0 h1=>?_
 intro w hI
 have hcs:=h
 obtain ⟨kv,rfl,_,_,hs,hks⟩:=RdT.iff.1 h
 simp only [T.name,T.kids,T.kind,T.n] at hs hks ⊢
 have hlen:=hks.le
 simp only [maxLen] at hlen
 refine r5 ?_
 unfold pv
 refine ca hI fun b1 w' hI=>?_
 refine ⟨fun t w'=>t=.bool (decide (d<1) || !dE (.mk k n s ks))/\Inv w [] [.blk b1 (.cells #[.int .i64 k,.int .i64 n,.string s,kv] ad)] S w',?_,?_⟩
 ·refine co ?_
  refine yw (fun h=>⟨by rw [h]; rfl,hI⟩) (fun h=>?_)
  refine a8 hI 0 ai rfl rfl ?_
  refine Run.callPure BO BV hI (Al hcs) fun w' hI=>?_
  refine c9 ?_
  exact rz h ⟨by rw [h]; rfl,hI⟩
 intro t _ _ _ _ _ _ w'
 rintro ⟨rfl,hI⟩
 refine aX (fun hb=>done hI ?_) (fun hb=>?_)
 ·rw [dK]
  by_cases hd:d<1
  ·rw [if_pos hd]
  ·rw [if_neg hd]
   simp [hd] at hb
   rw [hb]; rfl
 have hd:¬ d<1:=fun h=>by simp [h] at hb
 have ho:dE (.mk k n s ks)=true:=by simp [hd] at hb; exact hb
 refine ⟨fun i w'=>∃ j:Nat,j<=ks.length/\i=.int .i64 j/\dF (ks.drop j) (d - 1)=dF ks (d - 1)/\Inv w [] [.blk b1 (.cells #[.int .i64 k,.int .i64 n,.string s,kv] ad)] S w',
  fun i _=>ks.length - (intOf i).toNat,⟨0,Nat.zero_le _,rfl,rfl,hI⟩,?_⟩
 intro t5 _ _ _ _ _ _ _ _ _ _ _ _ _ _ _ _ _ w'
 rintro ⟨j,hj,rfl,hrel,hI⟩
 refine az hI 0 rfl aT aS rfl ?_
 refine a9 hks ay ?_
 refine co ?_
 refine bp (fun hji=>?_) (fun hji=>?_)
 ·have hj':j<ks.length:=by omega
  have hstep:dF (ks.drop j) (d - 1)=(dK ks[j] (d - 1) && dF (ks.drop (j+1)) (d - 1)):=by
   rw [List.drop_eq_getElem_cons hj',dF]
  refine az hI 0 rfl aT aS rfl ?_
  refine ec hI hks ay ai hj' (fun _ _=>RdT.length) fun cs' hcs'=>?_
  refine qV (by omega) ?_
  refine Run.callPure o0 n3 hI (ih _ (List.getElem_mem hj') S cs' (d - 1) hcs' (by omega) (by omega)) fun w' hI=>?_
  refine c9 ?_
  refine aX (fun hne=>done hI ?_) (fun he=>?_)
  ·simp at hne
   rw [dK,if_neg hd,ho,<- hrel,hstep,hne]; rfl
  ·simp at he
   refine bC (by omega) ?_
   exact ⟨⟨j+1,hj',rfl,by rw [<- hrel,hstep,he]; rfl,hI⟩,by simp [intOf]; omega⟩
 ·have:j=ks.length:=by omega
  subst this
  refine done hI ?_
  rw [dK,if_neg hd,ho,<- hrel,List.drop_length,dF]; rfl

theorem nq:∀ (ts:List T) (j:Nat) (h:j<ts.length),dH (ts.drop j)=dV ts[j]+dH (ts.drop (j+1)):=by
 intro ts j h
 rw [List.drop_eq_getElem_cons h,dH]
theorem v6:∀ (t:T) (S:av) (cs:List Value) (most:Int),RdT S cs t->0<=most->most<=1000->dV t<=4611686018427387904->Pure Tryz.prog AK [.agg cs.toArray,.int .i64 most] S (.int .i64 (gF t most)):=by
 refine T.ind fun k n s ks ih S cs most h h0 h1 hc=>?_
 intro w hI
 obtain ⟨kv,rfl,_,_,hs,hks⟩:=RdT.iff.1 h
 simp only [T.name,T.kids,T.kind,T.n] at hs hks ⊢
 have hlen:=hks.le
 simp only [maxLen] at hlen
 rw [show dV (T.mk k n s ks)=1+dH ks from rfl] at hc
 refine sf ?_
 unfold pw
 refine ca hI fun b1 w' hI=>?_
 refine ⟨fun i m w'=>∃ (j:Nat) (c:Int),j<=ks.length/\i=.int .i64 j/\m=.int .i64 c/\1<=c/\c+dH (ks.drop j)<=1+dH ks/\eZ (ks.drop j) c most=eZ ks 1 most/\Inv w [] [.blk b1 (.cells #[.int .i64 k,.int .i64 n,.string s,kv] ad)] S w',
  fun i _ _=>ks.length - (intOf i).toNat,⟨0,1,Nat.zero_le _,rfl,rfl,by omega,by rw [List.drop_zero]; omega,rfl,hI⟩,?_⟩
 intro t6 _ _ t5 _ _ _ _ _ _ _ _ _ _ _ _ _ _ _ _ _ _ _ _ _ w'
 rintro ⟨j,c,hj,rfl,rfl,hc1,hc2,hrel,hI⟩
 refine ⟨fun t w'=>t=.bool (decide (j<ks.length) && decide (c<=most))/\Inv w [] [.blk b1 (.cells #[.int .i64 k,.int .i64 n,.string s,kv] ad)] S w',?_,?_⟩
 ·refine az hI 0 rfl aT aS rfl ?_
  refine a9 hks ay ?_
  refine co ?_
  refine gE (fun h=>?_) (fun h=>⟨?_,hI⟩)
  ·refine fI ?_
   refine fm h ⟨?_,hI⟩
   rw [decide_eq_true (show j<ks.length from by have:=of_decide_eq_true h; omega)]; rfl
  ·rw [decide_eq_false (show ¬ j<ks.length from by have:=of_decide_eq_false h; omega)]; rfl
 intro t _ _ _ _ _ _ _ _ _ w'
 rintro ⟨rfl,hI⟩
 refine aX (fun hb=>?_) (fun hb=>done hI ?_)
 ·simp at hb
  obtain ⟨hj',hcm⟩:=hb
  have hsp:=nq ks j hj'
  have hstep:eZ (ks.drop j) c most=eZ (ks.drop (j+1)) (c+gF ks[j] (most - c)) most:=by
   rw [List.drop_eq_getElem_cons hj',eZ,if_pos hcm]
  have hct:=pT ks[j] (most - c) (by omega)
  have hp:=oM ks[j]
  have hlp:=fy (ks.drop (j+1))
  have hcle:1<=gF ks[j] (most - c)/\gF ks[j] (most - c)<=dV ks[j]:=by
   by_cases hq:dV ks[j]<=most - c
   ·rw [hct.1 hq]; omega
   ·have:=hct.2 (by omega); omega
  refine az hI 0 rfl aT aS rfl ?_
  refine ec hI hks ay ai hj' (fun _ _=>RdT.length) fun cs' hcs'=>?_
  refine qV (by omega) ?_
  refine Run.callPure pj o7 hI (ih _ (List.getElem_mem hj') S cs' (most - c) hcs' (by omega) (by omega) (by omega)) fun w' hI=>?_
  refine bC (by omega) ?_
  refine bC (by omega) ?_
  exact ⟨⟨j+1,_,hj',rfl,rfl,by omega,by omega,by rw [<- hrel,hstep],hI⟩,by simp [intOf]; omega⟩
 ·show Value.int .i64 c=Value.int .i64 (eZ ks 1 most)
  rw [<- hrel]
  by_cases hj':j<ks.length
  ·simp [hj'] at hb
   rw [List.drop_eq_getElem_cons hj',eZ,if_neg (by omega)]
  ·rw [List.drop_eq_nil_of_le (by omega),eZ]

mutual
theorem BP:∀ t:T,dV t<=1+(wT t:Int)
 | .mk k n s ks=>by
  rw [show dV (T.mk k n s ks)=1+dH ks from rfl,wT]
  have:=xn ks
  omega
theorem xn:∀ ts:List T,dH ts<=ts.length+(wL ts:Int)
 | []=>by simp [dH,wL]
 | t::ts=>by
  rw [show dH (t::ts)=dV t+dH ts from rfl,wL,List.length_cons]
  have:=BP t; have:=xn ts
  omega
end

theorem el {t:T} {S:av} {cs:List Value} (h:RdT S cs t) (hc:dV t<=4611686018427387904):Pure Tryz.prog vQ [.agg cs.toArray] S (.bool (dd t)):=by
 intro w hI
 have hl:=h.length
 refine o8 ?_
 unfold kW
 refine ca hI fun b1 w' hI=>?_
 refine a8 hI 0 ai rfl (by simpa [Value.cells] using hl) ?_
 refine Run.callPure o0 n3 hI (uW t S cs 30 h (by omega) (by omega)) fun w' hI=>?_
 refine gE (fun h1=>?_) (fun h1=>done hI ?_)
 ·refine a8 hI 0 ai rfl (by simpa [Value.cells] using hl) ?_
  refine Run.callPure pj o7 hI (v6 t S cs 120 h (by omega) (by omega) hc) fun w' hI=>?_
  refine fI ?_
  refine fm h1 (done hI ?_)
  rw [dd,h1,Dm]; rfl
 ·rw [dd,h1]; rfl

end Go.Proofs.YtemmhhdnlbmicaaGreat

/- slices.IndexFunc and slices.ContainsFunc, whatever function is handed to them. -/
namespace Go.Proofs.YtemmhhdnlbmicaaGreat
open Go Go.RowKit
attribute [local irreducible] Run CondV ag a4

def dP {α σ:Type} (step:σ->α->Bool × σ):σ->List α->Nat->Int × σ
 | st,[],_=>(-1,st)
 | st,x::xs,k=>if (step st x).1 then ((k:Int),(step st x).2) else dP step (step st x).2 xs (k+1)
def nJ {α σ:Type} (step:σ->α->Bool × σ):σ->List α->Bool × σ
 | st,[]=>(false,st)
 | st,x::xs=>if (step st x).1 then (true,(step st x).2) else nJ step (step st x).2 xs
theorem m1 {α σ:Type} (step:σ->α->Bool × σ):∀ (xs:List α) (st:σ) (k:Nat),decide (0<=(dP step st xs k).1)=(nJ step st xs).1/\(dP step st xs k).2=(nJ step st xs).2
 | [],st,k=>by simp [dP,nJ]
 | x::xs,st,k=>by
  by_cases h:(step st x).1=true
  ·simp [dP,nJ,h]
  ·simpa [dP,nJ,h] using m1 step xs (step st x).2 (k+1)
theorem wg {α:Type} (p:α->Bool):∀ xs:List α,nJ (σ:=Unit) (fun _ x=>(p x,())) () xs=(xs.any p,())
 | []=>rfl
 | x::xs=>by
  simp only [nJ,List.any_cons]
  cases h:p x with
  | true=>rfl
  | false=>rw [wg p xs]; rfl
abbrev fv (f:FuncId) (cap:List Value):Value:=.func (.func f) #[] cap.toArray
section
variable {P:Program} {w w0:World} {X:List Nat} {A I:List Item} {S:av} {K:Value->World->Prop}
theorem C0 {P:Program} {f:FuncId} {fn:Func} {cap args:List Value} {w:World} (hf:P.funcs[f]?=some fn) (hn:(fn.name == "runtime.NumGoroutine" || fn.body.isNone)=false) :
  (aH (fv f cap) args).run P w=.ok (.enter f (args++cap).toArray) w:=by
 simp only [Bool.or_eq_false_iff] at hn
 have h1:¬ fn.name = "runtime.NumGoroutine" := by simpa using hn.1
 have h2:¬ fn.body=none:=fun e=>by rw [e] at hn; simp at hn
 simp [aH,Deferred.ofValue,invoke,callFunc,hf,h1,h2]
theorem Run.callV {f:FuncId} {fn:Func} {cap args:List Value} {Post:Value->List Item->av->Prop}
  (hf:P.funcs[f]?=some fn) (hn:(fn.name == "runtime.NumGoroutine" || fn.body.isNone)=false) (h:Inv w0 X (A++I) S w) (hc:Tri P f (args++cap) I S Post)
  (hk:∀ v I' S' w',Post v I' S'->Sle S S'->Inv w0 X (A++I') S' w'->K v w'):Run P (aH (fv f cap) args) w K:=by
 unfold Run
 rw [C0 hf hn]
 refine (hc w (h.sub (List.sublist_append_right A I)).begin).mono ?_
 rintro e w' ⟨v,I',S',rfl,hI,hE,hP⟩
 exact hk v I' S' w' hP hE.1 (Inv.step h hI hE.2)
end
/- what a function handed over does to the state that it keeps -/
structure Cb (P:Program) (f:FuncId) (fn:Func) {α σ:Type} (cap:List Value) (S:av) (It:σ->List Item) (ok:σ->Prop) (step:σ->α->Bool × σ) (R:Value->α->Prop) (xs:List α):Prop where
 hf:P.funcs[f]?=some fn
 hn:(fn.name == "runtime.NumGoroutine" || fn.body.isNone)=false
 keep:∀ st x,x∈xs->ok st->(step st x).1=false->ok (step st x).2
 call:∀ st x v,x∈xs->ok st->R v x->Tri P f (v::cap) (It st) S fun r I' S'=>r=.bool (step st x).1/\I'=It (step st x).2/\S'=S
/- a function that only reads, handed over -/
theorem Cb.pure {P:Program} {f:FuncId} {fn:Func} {α:Type} {cap:List Value} {S:av} {p:α->Bool} {R:Value->α->Prop} {xs:List α} (L:List Item) (hf:P.funcs[f]?=some fn) (hn:(fn.name == "runtime.NumGoroutine" || fn.body.isNone)=false)
  (h:∀ x v,x∈xs->R v x->Tri P f (v::cap) L S fun r I' S'=>r=.bool (p x)/\I'=L/\S'=S):Cb P f fn cap S (fun _:Unit=>L) (fun _=>True) (fun _ x=>(p x,())) R xs:=
 ⟨hf,hn,fun _ _ _ _ _=>trivial,fun _ x v hx _ hR=>h x v hx hR⟩

theorem fY {σ:Type} {f:FuncId} {fn:Func} {cap:List Value} {S:av} {It:σ->List Item} {ok:σ->Prop} {step:σ->T->Bool × σ} {xs:List T} {v:Value}
  (hcb:Cb Tryz.prog f fn cap S It ok step (fun v x=>∃ cs,v=.agg cs.toArray/\RdT S cs x) xs) (h:RdSl S 4 (RdT S) v xs) {st:σ} (hok:ok st) :
  Tri Tryz.prog ny [v,fv f cap] (It st) S fun r I' S'=>r=.int .i64 (dP step st xs 0).1/\I'=It (dP step st xs 0).2/\S'=S:=by
 intro w hI
 have hlen:=h.le
 simp only [maxLen] at hlen
 refine jU ?_
 unfold gM
 refine a9 h ay ?_
 refine ⟨fun i w'=>∃ (k:Nat) (st':σ),k<=xs.length/\i=.int .i64 k/\ok st'/\dP step st' (xs.drop k) k=dP step st xs 0/\Inv w (bF (It st)) (It st') S w',fun i _=>xs.length - (intOf i).toNat,
  ⟨0,st,Nat.zero_le _,rfl,hok,rfl,hI⟩,?_⟩
 intro t8 _ _ _ _ _ _ _ _ _ _ _ _ w'
 rintro ⟨k,st',hk,rfl,hok',hrel,hI⟩
 refine co ?_
 refine bp (fun hki=>?_) (fun hki=>?_)
 ·have hk':k<xs.length:=by omega
  have hm:=List.getElem_mem hk'
  have hstep:dP step st' (xs.drop k) k=if (step st' xs[k]).1 then ((k:Int),(step st' xs[k]).2) else dP step (step st' xs[k]).2 (xs.drop (k+1)) (k+1):=by
   rw [List.drop_eq_getElem_cons hk',dP]
  refine ec hI h ay ai hk' (fun _ _=>RdT.length) fun cs hcs=>?_
  refine Run.callV (A:=[]) (args:=[.agg cs.toArray]) hcb.hf hcb.hn (by simpa using hI) (hcb.call st' _ _ hm hok' ⟨cs,rfl,hcs⟩) fun v' I' S' w'=>?_
  rintro ⟨rfl,rfl,rfl⟩ _ hI
  refine aX (fun hb=>?_) (fun hb=>?_)
  ·rw [if_pos hb] at hstep
   refine ⟨_,_,_,rfl,by simpa using hI,Ext.refl _ _ _,?_,?_,rfl⟩
   ·rw [<- hrel,hstep]
   ·rw [<- hrel,hstep]
  ·refine bC (by omega) ?_
   rw [hb] at hstep
   refine ⟨⟨k+1,_,hk',rfl,hcb.keep st' _ hm hok' hb,?_,by simpa using hI⟩,by simp [intOf]; omega⟩
   rw [<- hrel,hstep]
   rfl
 ·have:k=xs.length:=by omega
  subst this
  rw [List.drop_length,dP] at hrel
  exact ⟨_,_,_,rfl,hI,Ext.refl _ _ _,by rw [<- hrel],by rw [<- hrel],rfl⟩
theorem lH {σ:Type} {f:FuncId} {fn:Func} {cap:List Value} {S:av} {It:σ->List Item} {ok:σ->Prop} {step:σ->T->Bool × σ} {xs:List T} {v:Value}
  (hcb:Cb Tryz.prog f fn cap S It ok step (fun v x=>∃ cs,v=.agg cs.toArray/\RdT S cs x) xs) (h:RdSl S 4 (RdT S) v xs) {st:σ} (hok:ok st) :
  Tri Tryz.prog kI [v,fv f cap] (It st) S fun r I' S'=>r=.bool (nJ step st xs).1/\I'=It (nJ step st xs).2/\S'=S:=by
 intro w hI
 refine iy ?_
 unfold fT
 refine Run.call (A:=[]) fp fk (by simpa using hI) (fY hcb h hok) fun v' I' S' w'=>?_
 rintro ⟨rfl,rfl,rfl⟩ _ hI
 refine q9 ?_
 have he:=m1 step xs st 0
 exact ⟨_,_,_,rfl,by simpa using hI,Ext.refl _ _ _,by rw [he.1],by rw [he.2],rfl⟩
end Go.Proofs.YtemmhhdnlbmicaaGreat

/- The program's TermValid and what it calls. -/
namespace Go.Proofs.YtemmhhdnlbmicaaGreat
open Go Go.RowKit
attribute [local irreducible] Run CondV ag a4

theorem jL (n low high:Int) (S:av):Pure Tryz.prog BB [.int .i64 n,.int .i64 low,.int .i64 high] S (.bool (decide (low<=n) && decide (n<=high))):=by
 intro w hI
 refine tJ ?_
 unfold rp
 refine fI ?_
 refine gE (fun h=>?_) (fun h=>done hI (by rw [h]; rfl))
 refine fI ?_
 exact fm h (done hI (by rw [h]; rfl))
theorem sa (s:ByteArray) (hs:s.size<=maxLen) (S:av):Pure Tryz.prog vG [.string s] S (.bool (kw s)):=by
 intro w hI
 simp only [maxLen] at hs
 refine po ?_
 unfold lO
 refine gw a7 ?_
 refine ⟨fun i w'=>∃ k:Nat,k<=s.size/\i=.int .i64 k/\(s.data.toList.drop k).all lK=lA s/\Inv w [] [] S w',fun i _=>s.size - (intOf i).toNat,⟨0,Nat.zero_le _,rfl,rfl,hI⟩,?_⟩
 intro t6 _ _ _ _ _ _ _ _ _ _ _ _ _ _ _ w'
 rintro ⟨k,hk,rfl,hrel,hI⟩
 refine co ?_
 refine bp (fun hki=>?_) (fun hki=>?_)
 ·have hk':k<s.size:=by omega
  have hstep:=jv lK s.data.toList k (by rw [jx]; exact hk')
  rw [zg s k hk'] at hstep
  refine ⟨fun t w'=>t=.bool (!lK s[k])/\Inv w [] [] S w',?_,?_⟩
  ·refine il a7 hk' ?_
   refine co ?_
   refine yw (fun h=>⟨?_,hI⟩) (fun h=>?_)
   ·have h:=of_decide_eq_true h
    rw [lK,decide_eq_false (show ¬ 97<=s[k].toNat by omega)]; rfl
   ·refine il a7 hk' ?_
    refine dS ?_
    refine rz h ⟨?_,hI⟩
    have h:=of_decide_eq_false h
    rw [lK,decide_eq_true (show 97<=s[k].toNat by omega),Bool.true_and]
    by_cases h2:s[k].toNat<=122
    ·rw [decide_eq_true h2,decide_eq_false (by omega)]; rfl
    ·rw [decide_eq_false h2,decide_eq_true (by omega)]; rfl
  intro t _ _ _ _ _ _ _ _ _ w'
  rintro ⟨rfl,hI⟩
  refine aX (fun h=>done hI ?_) (fun h=>?_)
  ·simp at h
   rw [kw,<- hrel,hstep,h]; rfl
  ·simp at h
   refine bC (by omega) ?_
   refine ⟨⟨k+1,hk',rfl,by rw [<- hrel,hstep,h]; rfl,hI⟩,by simp [intOf]; omega⟩
 ·have:k=s.size:=by omega
  subst this
  have hl:lA s=true:=by rw [<- hrel,<- jx,List.drop_length]; rfl
  refine gw a7 ?_
  refine Run.callPure lW l5 hI (jL _ _ _ S) fun w' hI=>done hI ?_
  rw [kw,hl,Bool.true_and]
  congr 1
  rw [Bool.eq_iff_iff]
  simp
  omega
theorem vu (S:av):Tri Tryz.prog AA [] [] S (wt S):=by
 intro w hI
 refine sI ?_
 unfold nR
 refine qi (v:=fun b=>.slice (some ⟨b,0,none⟩) 15 15) (o:=.cells pV gv) hI (by kernel_rfl) fun b w' hI=>?_
 have hnew:w.heap.size<=b:=by
  rcases hI.new b (by simp [bF,Item.foot]) with h|h
  ·simp [bF] at h
  ·exact h
 obtain ⟨h1,h2⟩:=Inv.publishLast (L:=[]) hI
 exact ⟨_,_,_,rfl,h1,y9 hnew h2,rfl,h2,AP (by simp [gz]; rfl)⟩
theorem nw (s:ByteArray) {xs:List ByteArray} {S:av} {v:Value} (h:RdSl S 1 mC v xs) :
  Pure Tryz.prog pQ [v,.string s] S (.int .i64 (dP (σ:=Unit) (fun _ x=>(decide (x=s),())) () xs 0).1):=by
 intro w hI
 have hlen:=h.le
 simp only [maxLen] at hlen
 refine lh ?_
 unfold iV
 refine a9 h cg ?_
 refine ⟨fun i w'=>∃ k:Nat,k<=xs.length/\i=.int .i64 k/\dP (σ:=Unit) (fun _ x=>(decide (x=s),())) () (xs.drop k) k=dP (σ:=Unit) (fun _ x=>(decide (x=s),())) () xs 0/\Inv w [] [] S w',
  fun i _=>xs.length - (intOf i).toNat,⟨0,Nat.zero_le _,rfl,rfl,hI⟩,?_⟩
 intro t8 _ _ _ _ _ _ _ _ _ _ _ _ w'
 rintro ⟨k,hk,rfl,hrel,hI⟩
 refine co ?_
 refine bp (fun hki=>?_) (fun hki=>?_)
 ·have hk':k<xs.length:=by omega
  rw [List.drop_eq_getElem_cons hk',dP] at hrel
  refine jO hI h cg bi hk' (fun cs hcs=>hcs) ?_
  refine dj ?_
  refine bp (fun he=>done hI ?_) (fun he=>?_)
  ·rw [<- hrel,if_pos (by simpa using he.symm)]
  ·refine bC (by omega) ?_
   rw [if_neg (by simpa using fun e=>he e.symm)] at hrel
   exact ⟨⟨k+1,hk',rfl,hrel,hI⟩,by simp [intOf]; omega⟩
 ·have:k=xs.length:=by omega
  subst this
  rw [List.drop_length,dP] at hrel
  exact done hI (by rw [<- hrel])
theorem kG (s:ByteArray) {xs:List ByteArray} {S:av} {v:Value} (h:RdSl S 1 mC v xs) :
  Pure Tryz.prog mi [v,.string s] S (.bool (xs.any fun x=>decide (x=s))):=by
 intro w hI
 refine jm ?_
 unfold gx
 refine Run.callPure oo pd hI (nw s h) fun w' hI=>?_
 refine q9 (done hI ?_)
 rw [(m1 _ xs () 0).1,wg]
theorem qC (s:ByteArray) (hs:s.size<=maxLen) (S:av):Pure Tryz.prog vL [.string s] S (.bool (jq s)):=by
 intro w hI
 refine n6 ?_
 unfold kO
 refine Run.callPure tc ta hI (sa s hs S) fun w' hI=>?_
 refine yw (fun h=>done hI ?_) (fun h=>?_)
 ·rw [jq,h]; rfl
 ·refine Run.call0 xX yo hI (vu S) fun v' I' S' w'=>?_
  rintro ⟨rfl,_,hr⟩ hle hI
  refine Run.callPure lf lF hI (kG s hr) fun w' hI=>?_
  refine rz h (o6 hI hle ?_)
  rw [jq,h]; rfl

abbrev gG (b:Nat) (c:Int):Item:=.blk b (.cells #[.int .i64 c] ir)
abbrev nL (bc:Nat) (S:av) (r:Bool × Int):Value->List Item->av->Prop:=fun v I' S'=>v=.bool r.1/\I'=[gG bc r.2]/\S'=S
theorem yU:∀ (t:T) (deep c:Int),c<=120->(ey t deep c).1=true->c<(ey t deep c).2/\(ey t deep c).2<=120:=by
 intro t deep c hc h
 have:=tg t deep c
 rw [this.2 h]
 have h1:=this.1
 rw [h] at h1
 have h2:=h1.symm
 simp at h2
 have:=oM t
 omega
theorem wJ (deep:Int):∀ (ks:List T) (c:Int),nJ (fun c t=>(!(ey t deep c).1,(ey t deep c).2)) c ks=(!(ie ks deep c).1,(ie ks deep c).2)
 | [],c=>by simp [nJ,ie]
 | t::ts,c=>by
  by_cases h:(ey t deep c).1=true
  ·simp [nJ,ie,h,wJ deep ts]
  ·simp [nJ,ie,h]

theorem Bm:∀ (t:T) (S:av) (cs:List Value) (deep c:Int) (bc:Nat),RdT S cs t->0<=deep->deep<=31->0<=c->c<=120->
  Tri Tryz.prog E6 [.agg cs.toArray,.int .i64 deep,.pointer (some ⟨bc,0,none⟩)] [gG bc c] S (nL bc S (ey t deep c)):=by
 refine T.ind fun k n s ks ih S cs deep c bc h hd0 hd1 hc0 hc1=>?_
 intro w hI
 obtain ⟨kv,rfl,_,_,hs,hks⟩:=RdT.iff.1 h
 simp only [T.name,T.kids,T.kind,T.n] at hs hks ⊢
 have hend:∀ {L:List Item} {w':World} {v:Value} (r:Bool × Int),Inv w (bF [gG bc c]) (gG bc r.2::L) S w'->v=.bool r.1->r=ey (.mk k n s ks) deep c->
   ∃ v' I' S',Ending.returned v=.returned v'/\Inv w (bF [gG bc c]) I' S' w'/\Ext w.heap.size (bF [gG bc c]) S S'/\nL bc S (ey (.mk k n s ks) deep c) v' I' S':=by
  intro L w' v r h1 h2 h3
  subst h3
  exact ⟨_,_,_,rfl,h1.pick [true],Ext.refl _ _ _,h2,rfl,rfl⟩
 refine yJ ?_
 unfold wS;dsimp only
 refine ca hI fun b3 w' hI=>?_
 refine ca hI fun b4 w' hI=>?_
 refine ca hI fun b5 w' hI=>?_
 refine bA hI 3 yb rfl rfl ?_
 refine dh ?_
 refine bA hI 0 bj rfl rfl ?_
 refine bC (by omega) ?_
 refine dh ?_
 refine fW hI 0 (n:=1) rfl (by rw [bj]; rfl) rfl (Nat.le_of_ble_eq_true rfl) (by simp [Value.cells]; rfl) fun w' hI=>?_
 refine ⟨fun t w'=>t=.bool (decide (120<c+1 ∨ 30<deep))/\Inv w (bF [gG bc c]) [gG bc (c+1),.blk b3 (.cells #[.int .i64 k,.int .i64 n,.string s,kv] ad),.blk b4 (.cells #[.int .i64 deep] ir),.blk b5 (.cells #[.pointer (some ⟨bc,0,none⟩)] jH)] S w',?_,?_⟩
 ·refine bA hI 3 yb rfl rfl ?_
  refine dh ?_
  refine bA hI 0 bj rfl rfl ?_
  refine dS ?_
  refine yw (fun h=>⟨?_,hI⟩) (fun h=>?_)
  ·have h:=of_decide_eq_true h
   rw [decide_eq_true (show 120<c+1 ∨ 30<deep from .inl h)]
  ·refine bA hI 2 bj rfl rfl ?_
   refine dS ?_
   refine rz h ⟨?_,hI⟩
   have h:=of_decide_eq_false h
   congr 1
   rw [Bool.eq_iff_iff]
   simp
   omega
 intro t _ _ _ _ _ _ _ w'
 rintro ⟨rfl,hI⟩
 refine bp (fun hb=>?_) (fun hb=>?_)
 ·exact hend (false,c+1) hI rfl (by rw [ey,if_pos hb])
 have hsc:∀ r,(if k=1 ∨ k=2 then (dE (.mk k n s ks),c+1) else if k=3 then (if dE (.mk k n s ks) then ie ks (deep+1) (c+1) else (false,c+1)) else (false,c+1))=r->r=ey (.mk k n s ks) deep c:=by
  intro r hr
  rw [ey,if_neg hb,hr]
 refine az hI 1 rfl bt bj rfl ?_
 refine cw ?_
 refine bp (fun hk=>?_) (fun hk=>?_)
 ·have ho:dE (.mk k n s ks)=(decide (0<=n) && (decide (n<=25) && (decide (s=emptyB) && decide (ks.length=0)))):=by
   rw [dE]; exact if_pos hk
  have hfin:∀ {w':World} {b:Bool},Inv w (bF [gG bc c]) [gG bc (c+1),.blk b3 (.cells #[.int .i64 k,.int .i64 n,.string s,kv] ad),.blk b4 (.cells #[.int .i64 deep] ir),.blk b5 (.cells #[.pointer (some ⟨bc,0,none⟩)] jH)] S w'->
    b=dE (.mk k n s ks)->∃ v' I' S',Ending.returned (.bool b)=.returned v'/\Inv w (bF [gG bc c]) I' S' w'/\Ext w.heap.size (bF [gG bc c]) S S'/\nL bc S (ey (.mk k n s ks) deep c) v' I' S':=
   fun hI hb=>hend (_,c+1) hI (by rw [hb]) (hsc _ (if_pos (.inl hk)))
  refine az hI 1 rfl bv bj rfl ?_
  refine Run.callPure lW l5 hI (jL _ _ _ S) fun w' hI=>?_
  refine gE (fun h2=>?_) (fun h2=>?_)
  ·have h2':=h2
   rw [Bool.and_eq_true] at h2'
   refine az hI 1 rfl bk bi rfl ?_
   refine dj ?_
   refine fm h2 ?_
   refine gE (fun h3=>?_) (fun h3=>hfin hI ?_)
   ·refine az hI 1 rfl aT aS rfl ?_
    refine a9 hks ay ?_
    refine cw ?_
    refine fm h3 (hfin hI ?_)
    rw [ho,h2'.1,h2'.2,show decide (s=emptyB)=true from h3]
    simp
   ·rw [ho,h2'.1,h2'.2,show decide (s=emptyB)=false from h3]; rfl
  ·refine jX (hfin hI ?_)
   rw [ho,<- Bool.and_assoc,h2]; rfl
 refine cw ?_
 refine bp (fun hk2=>?_) (fun hk2=>?_)
 ·have ho:dE (.mk k n s ks)=(decide (-999<=n) && (decide (n<=999) && (decide (s=emptyB) && decide (ks.length=0)))):=by
   rw [dE]; exact (if_neg hk).trans (if_pos hk2)
  have hfin:∀ {w':World} {b:Bool},Inv w (bF [gG bc c]) [gG bc (c+1),.blk b3 (.cells #[.int .i64 k,.int .i64 n,.string s,kv] ad),.blk b4 (.cells #[.int .i64 deep] ir),.blk b5 (.cells #[.pointer (some ⟨bc,0,none⟩)] jH)] S w'->
    b=dE (.mk k n s ks)->∃ v' I' S',Ending.returned (.bool b)=.returned v'/\Inv w (bF [gG bc c]) I' S' w'/\Ext w.heap.size (bF [gG bc c]) S S'/\nL bc S (ey (.mk k n s ks) deep c) v' I' S':=
   fun hI hb=>hend (_,c+1) hI (by rw [hb]) (hsc _ (if_pos (.inr hk2)))
  refine az hI 1 rfl bv bj rfl ?_
  refine Run.callPure lW l5 hI (jL _ _ _ S) fun w' hI=>?_
  refine gE (fun h2=>?_) (fun h2=>?_)
  ·have h2':=h2
   rw [Bool.and_eq_true] at h2'
   refine az hI 1 rfl bk bi rfl ?_
   refine dj ?_
   refine fm h2 ?_
   refine gE (fun h3=>?_) (fun h3=>hfin hI ?_)
   ·refine az hI 1 rfl aT aS rfl ?_
    refine a9 hks ay ?_
    refine cw ?_
    refine fm h3 (hfin hI ?_)
    rw [ho,h2'.1,h2'.2,show decide (s=emptyB)=true from h3]
    simp
   ·rw [ho,h2'.1,h2'.2,show decide (s=emptyB)=false from h3]; rfl
  ·refine jX (hfin hI ?_)
   rw [ho,<- Bool.and_assoc,h2]; rfl
 refine cw ?_
 have hk12:¬ (k=1 ∨ k=2):=fun h=>h.elim hk hk2
 refine bp (fun hk3=>?_) (fun hk3=>?_)
 ·have ho:dE (.mk k n s ks)=(decide (n=0) && (jq s && decide (ks.length<=4))):=by
   rw [dE]; exact (if_neg hk).trans ((if_neg hk2).trans (if_pos hk3))
  refine ⟨fun t w'=>t=.bool (!dE (.mk k n s ks))/\Inv w (bF [gG bc c]) [gG bc (c+1),.blk b3 (.cells #[.int .i64 k,.int .i64 n,.string s,kv] ad),.blk b4 (.cells #[.int .i64 deep] ir),.blk b5 (.cells #[.pointer (some ⟨bc,0,none⟩)] jH)] S w',?_,?_⟩
  ·refine az hI 1 rfl bv bj rfl ?_
   refine fA ?_
   refine yw (fun h1=>?_) (fun h1=>?_)
   ·have h1':decide (n=0)=false:=by simpa using h1
    refine Hh ⟨?_,hI⟩
    rw [ho,h1']; rfl
   ·have h1':decide (n=0)=true:=by simpa using h1
    refine az hI 1 rfl bk bi rfl ?_
    refine Run.callPure uJ sV hI (qC s hs S) fun w' hI=>?_
    refine c9 ?_
    refine rz h1 ?_
    refine yw (fun h2=>⟨?_,hI⟩) (fun h2=>?_)
    ·have h2':jq s=false:=by simpa using h2
     rw [ho,h1',h2']; rfl
    ·have h2':jq s=true:=by simpa using h2
     refine az hI 1 rfl aT aS rfl ?_
     refine a9 hks ay ?_
     refine dS ?_
     refine rz h2 ⟨?_,hI⟩
     rw [ho,h1',h2',Bool.true_and,Bool.true_and]
     congr 1
     rw [Bool.eq_iff_iff]
     simp
     omega
  intro t _ _ _ _ _ _ _ _ _ _ _ _ _ _ w'
  rintro ⟨rfl,hI⟩
  refine aX (fun hb1=>?_) (fun hb1=>?_)
  ·have hb1':dE (.mk k n s ks)=false:=by simpa using hb1
   exact hend (false,c+1) hI rfl (hsc _ (by rw [if_neg hk12,if_pos hk3,hb1']; rfl))
  ·have hb1':dE (.mk k n s ks)=true:=by simpa using hb1
   refine az hI 1 rfl aT aS rfl ?_
   refine uo ?_
   have hcb:Cb Tryz.prog AX Tryz.f128 [.pointer (some ⟨b4,0,none⟩),.pointer (some ⟨b5,0,none⟩)] S
     (fun c:Int=>[gG bc c,.blk b4 (.cells #[.int .i64 deep] ir),.blk b5 (.cells #[.pointer (some ⟨bc,0,none⟩)] jH)]) (fun c=>0<=c/\c<=120)
     (fun c t=>(!(ey t (deep+1) c).1,(ey t (deep+1) c).2)) (fun v x=>∃ cs,v=.agg cs.toArray/\RdT S cs x) ks:=by
    refine ⟨zx,Ad,fun st x _ hst hf=>?_,fun st x v hx hst=>?_⟩
    ·have:=yU x (deep+1) st hst.2 (by simpa using hf)
     omega
    ·rintro ⟨cs,rfl,hcs⟩ w1 hI
     have hl:=hcs.length
     refine ut ?_
     unfold q5
     refine ca hI fun b w' hI=>?_
     refine a8 hI 3 ai rfl (by simpa [Value.cells] using hl) ?_
     refine bA hI 1 bj rfl rfl ?_
     refine bC (by omega) ?_
     refine bA hI 2 yb rfl rfl ?_
     have hI:=hI.perm (M:=[.blk b4 (.cells #[.int .i64 deep] ir),.blk b5 (.cells #[.pointer (some ⟨bc,0,none⟩)] jH),.blk b (.cells (Value.agg cs.toArray).cells ad)]++[gG bc st])
      (List.perm_append_comm (l₁:=[_,_,_]) (l₂:=[gG bc st]))
     refine Run.call wQ wY hI (ih x hx S cs (deep+1) st bc hcs (by omega) (by omega) hst.1 hst.2) fun v' I' S' w'=>?_
     rintro ⟨rfl,rfl,rfl⟩ _ hI
     refine c9 ?_
     have hI:=(hI.perm (M:=[gG bc (ey x (deep+1) st).2]++[.blk b4 (.cells #[.int .i64 deep] ir),.blk b5 (.cells #[.pointer (some ⟨bc,0,none⟩)] jH),.blk b (.cells (Value.agg cs.toArray).cells ad)])
      List.perm_append_comm).pick [true,true,true,false]
     exact ⟨_,_,_,rfl,hI,Ext.refl _ _ _,rfl,rfl,rfl⟩
   have hI:=hI.perm (M:=[.blk b3 (.cells #[.int .i64 k,.int .i64 n,.string s,kv] ad)]++[gG bc (c+1),.blk b4 (.cells #[.int .i64 deep] ir),.blk b5 (.cells #[.pointer (some ⟨bc,0,none⟩)] jH)]) (List.Perm.swap _ _ _)
   refine Run.call jR jS hI (lH hcb hks ⟨by omega,by omega⟩) fun v' I' S' w'=>?_
   rintro ⟨rfl,rfl,rfl⟩ _ hI
   refine c9 ?_
   rw [wJ] at hI ⊢
   have hI:=hI.perm (M:=[gG bc (ie ks (deep+1) (c+1)).2,.blk b3 (.cells #[.int .i64 k,.int .i64 n,.string s,kv] ad),.blk b4 (.cells #[.int .i64 deep] ir),.blk b5 (.cells #[.pointer (some ⟨bc,0,none⟩)] jH)]) (List.Perm.swap _ _ _)
   refine hend (ie ks (deep+1) (c+1)) hI (by simp) (hsc _ (by rw [if_neg hk12,if_pos hk3,hb1']; rfl))
 ·exact hend (false,c+1) hI rfl (hsc _ (by rw [if_neg hk12,if_neg hk3]))

theorem jo {t:T} {S:av} {cs:List Value} (h:RdT S cs t):Pure Tryz.prog vC [.agg cs.toArray] S (.bool (dd t)):=by
 intro w hI
 have hl:=h.length
 refine nQ ?_
 unfold lR
 refine ca hI fun b1 w' hI=>?_
 refine bw hI Gr fun b2 w' hI=>?_
 refine fW hI 1 (n:=1) rfl (by rw [bj]; rfl) rfl (Nat.le_of_ble_eq_true rfl) (by simp [Value.cells]; rfl) fun w' hI=>?_
 refine a8 hI 0 ai rfl (by simpa [Value.cells] using hl) ?_
 refine Run.call (A:=[_]) (I:=[gG b2 0]) wQ wY hI (Bm t S cs 1 0 b2 h (by omega) (by omega) (by omega) (by omega)) fun v' I' S' w'=>?_
 rintro ⟨rfl,rfl,rfl⟩ _ hI
 exact done hI (by rw [BR])

end Go.Proofs.YtemmhhdnlbmicaaGreat

/- Goals, clauses, programs, queries: which are valid, on both sides. -/
namespace Go.Proofs.YtemmhhdnlbmicaaGreat
open Go Go.RowKit
section
variable {P:Program} {w:World} {K:Value->World->Prop} {ty:TypeId}
theorem ab {b:Bool} {A B:Prop} (h:B):ag undef b A B:=by unfold ag; exact h
theorem al {v u:Value} (hk:K v w):Run P (sOp (.pick (.const (.bool true)) (.const v) (.const u)) ty) w K:=kX hk
theorem ak {v u:Value} (hk:K u w):Run P (sOp (.pick (.const (.bool false)) (.const v) (.const u)) ty) w K:=kX hk
end
attribute [local irreducible] Run CondV ag a4

def Dl:List ByteArray:=[⟨#[61]⟩,⟨#[92,61]⟩,⟨#[61,61]⟩,⟨#[60]⟩,⟨#[62]⟩,⟨#[61,60]⟩,⟨#[62,61]⟩,⟨#[61,58,61]⟩,⟨#[105,115]⟩]
def yt:List ByteArray:=[⟨#[116,114,117,101]⟩,⟨#[102,97,105,108]⟩]
def CI:List ByteArray:=[⟨#[118,97,114]⟩,⟨#[110,111,110,118,97,114]⟩,⟨#[97,116,111,109]⟩,⟨#[105,110,116]⟩]
def Fd:List ByteArray:=[⟨#[43]⟩,⟨#[45]⟩]
def Cv:List ByteArray:=[⟨#[42]⟩,⟨#[47,47]⟩,⟨#[109,111,100]⟩]
def iA (s:ByteArray) (l:List ByteArray):Bool:=l.any fun x=>decide (s=x)
def jT (s:ByteArray) (n:Int):Bool:=
 if iA s Dl=true then decide (n=2)
 else if iA s yt=true then decide (n=0)
 else if iA s CI=true then decide (n=1)
 else if s=⟨#[97,114,103]⟩ then decide (n=3)
 else false
def dG (s:ByteArray):Int:=if iA s Dl=true then 3 else if iA s Fd=true then 2 else if iA s Cv=true then 1 else 0
def EJ (t:T):Bool:=decide (t.kind=3) && (decide (t.name=⟨#[33]⟩) && decide (t.kids.length=0))
def AS (t:T):Bool:=decide (t.kind=3) && jT t.name t.kids.length
def iY (t:T):Bool:=decide (t.kind=3) && (kw t.name && (!jT t.name t.kids.length && decide (dG t.name=0)))
def kq (t:T):Bool:=dd t && (EJ t || (iY t || AS t))
def dt (c:C):Bool:=decide (c.body.length<=6) && (c.body.all kq && (dd c.head && iY c.head))
def qL (p:List C):Bool:=decide (p.length<=20) && p.all dt
theorem ji (s:ByteArray) (n:Int) (S:av):Pure Tryz.prog vy [.string s,.int .i64 n] S (.bool (jT s n)):=by
 intro w hI
 refine pn ?_
 unfold kV
 obtain ⟨q,hq⟩:∃ q,iA s Dl=q:=⟨_,rfl⟩
 have hq1:=hq
 refine ⟨fun t w'=>t=.bool q/\Inv w [] [] S w',?_,?_⟩
 ·unfold iA Dl at hq
  iterate 8
   refine dj ?_
   refine aX (fun h=>⟨by rw [List.any_cons,h] at hq; rw [h,<- hq]; rfl,hI⟩) (fun h=>?_)
   rw [List.any_cons,h,Bool.false_or] at hq
  refine dj ⟨?_,hI⟩
  rw [<- hq]; simp
 intro t _ _ _ _ _ _ _ _ _ w'
 rintro ⟨rfl,hI⟩
 refine aX (fun h=>?_) (fun h=>?_)
 ·exact cw (done hI (by rw [jT,if_pos (hq1.trans h)]))
 have e1:jT s n=if iA s yt=true then decide (n=0) else if iA s CI=true then decide (n=1) else if s=⟨#[97,114,103]⟩ then decide (n=3) else false:=by
  rw [jT,if_neg (by rw [hq1,h]; decide)]
 clear hq hq1 h
 obtain ⟨q,hq⟩:∃ q,iA s yt=q:=⟨_,rfl⟩
 have hq1:=hq
 refine ⟨fun t w'=>t=.bool q/\Inv w [] [] S w',?_,?_⟩
 ·unfold iA yt at hq
  refine dj ?_
  refine aX (fun h=>⟨by rw [List.any_cons,h] at hq; rw [h,<- hq]; rfl,hI⟩) (fun h=>?_)
  rw [List.any_cons,h,Bool.false_or] at hq
  refine dj ⟨?_,hI⟩
  rw [<- hq]; simp
 intro _ t _ w'
 rintro ⟨rfl,hI⟩
 refine aX (fun h=>?_) (fun h=>?_)
 ·exact cw (done hI (by rw [e1,if_pos (hq1.trans h)]))
 rw [if_neg (by rw [hq1,h]; decide)] at e1
 clear hq hq1 h
 obtain ⟨q,hq⟩:∃ q,iA s CI=q:=⟨_,rfl⟩
 have hq1:=hq
 refine ⟨fun t w'=>t=.bool q/\Inv w [] [] S w',?_,?_⟩
 ·unfold iA CI at hq
  iterate 3
   refine dj ?_
   refine aX (fun h=>⟨by rw [List.any_cons,h] at hq; rw [h,<- hq]; rfl,hI⟩) (fun h=>?_)
   rw [List.any_cons,h,Bool.false_or] at hq
  refine dj ⟨?_,hI⟩
  rw [<- hq]; simp
 intro _ _ _ t _ w'
 rintro ⟨rfl,hI⟩
 refine aX (fun h=>?_) (fun h=>?_)
 ·exact cw (done hI (by rw [e1,if_pos (hq1.trans h)]))
 rw [if_neg (by rw [hq1,h]; decide)] at e1
 refine dj ?_
 refine bp (fun h=>?_) (fun h=>?_)
 ·exact cw (done hI (by rw [e1,if_pos h]))
 ·exact done hI (by rw [e1,if_neg h])
theorem dC (s:ByteArray) (S:av):Pure Tryz.prog AJ [.string s] S (.int .i64 (dG s)):=by
 intro w hI
 refine sg ?_
 unfold oX
 obtain ⟨q,hq⟩:∃ q,iA s Dl=q:=⟨_,rfl⟩
 have hq1:=hq
 refine ⟨fun t w'=>t=.bool q/\Inv w [] [] S w',?_,?_⟩
 ·unfold iA Dl at hq
  iterate 8
   refine dj ?_
   refine aX (fun h=>⟨by rw [List.any_cons,h] at hq; rw [h,<- hq]; rfl,hI⟩) (fun h=>?_)
   rw [List.any_cons,h,Bool.false_or] at hq
  refine dj ⟨?_,hI⟩
  rw [<- hq]; simp
 intro _ _ _ _ _ _ _ _ t _ w'
 rintro ⟨rfl,hI⟩
 refine aX (fun h=>?_) (fun h=>?_)
 ·exact done hI (by rw [show dG s=3 from if_pos (hq1.trans h)] <;> rfl)
 have e1:dG s=if iA s Fd=true then 2 else if iA s Cv=true then 1 else 0:=by
  rw [dG,if_neg (by rw [hq1,h]; decide)]
 clear hq hq1 h
 obtain ⟨q,hq⟩:∃ q,iA s Fd=q:=⟨_,rfl⟩
 have hq1:=hq
 refine ⟨fun t w'=>t=.bool q/\Inv w [] [] S w',?_,?_⟩
 ·unfold iA Fd at hq
  refine dj ?_
  refine aX (fun h=>⟨by rw [List.any_cons,h] at hq; rw [h,<- hq]; rfl,hI⟩) (fun h=>?_)
  rw [List.any_cons,h,Bool.false_or] at hq
  refine dj ⟨?_,hI⟩
  rw [<- hq]; simp
 intro _ t _ w'
 rintro ⟨rfl,hI⟩
 refine aX (fun h=>?_) (fun h=>?_)
 ·exact done hI (by rw [show dG s=2 from e1.trans (if_pos (hq1.trans h))] <;> rfl)
 rw [if_neg (by rw [hq1,h]; decide)] at e1
 clear hq hq1 h
 obtain ⟨q,hq⟩:∃ q,iA s Cv=q:=⟨_,rfl⟩
 have hq1:=hq
 refine ⟨fun t w'=>t=.bool q/\Inv w [] [] S w',?_,?_⟩
 ·unfold iA Cv at hq
  iterate 2
   refine dj ?_
   refine aX (fun h=>⟨by rw [List.any_cons,h] at hq; rw [h,<- hq]; rfl,hI⟩) (fun h=>?_)
   rw [List.any_cons,h,Bool.false_or] at hq
  refine dj ⟨?_,hI⟩
  rw [<- hq]; simp
 intro _ _ t _ w'
 rintro ⟨rfl,hI⟩
 refine aX (fun h=>?_) (fun h=>?_)
 ·exact done hI (by rw [show dG s=1 from e1.trans (if_pos (hq1.trans h))] <;> rfl)
 ·exact done hI (by rw [show dG s=0 from e1.trans (if_neg (by rw [hq1,h]; decide))] <;> rfl)
theorem zl {t:T} {S:av} {cs:List Value} (h:RdT S cs t):Pure Tryz.prog C4 [.agg cs.toArray] S (.bool (EJ t)):=by
 intro w hI
 obtain ⟨kv,rfl,_,_,hs,hks⟩:=RdT.iff.1 h
 obtain ⟨k,n,s,ks⟩:=t
 simp only [T.name,T.kids,T.kind,T.n] at hs hks ⊢
 refine v7 ?_
 unfold tx;dsimp only
 refine ca hI fun b1 w' hI=>?_
 refine az hI 0 rfl bt bj rfl ?_
 refine cw ?_
 rw [show EJ (.mk k n s ks)=(decide (k=3) && (decide (s=⟨#[33]⟩) && decide (ks.length=0))) from rfl]
 cases h1:decide (k=3)
 ·repeat (first|refine ac ?_|refine af (by decide) ?_|refine ab ?_|refine al ?_|refine ak ?_)
  exact done hI rfl
 ·repeat (first|refine ac ?_|refine af (by decide) ?_|refine ab ?_|refine al ?_|refine ak ?_)
  refine az hI 0 rfl bk bi rfl ?_
  refine dj ?_
  cases h2:decide (s=⟨#[33]⟩)
  ·repeat (first|refine ac ?_|refine af (by decide) ?_|refine ab ?_|refine al ?_|refine ak ?_)
   exact done hI rfl
  ·repeat (first|refine ac ?_|refine af (by decide) ?_|refine ab ?_|refine al ?_|refine ak ?_)
   refine az hI 0 rfl aT aS rfl ?_
   refine a9 hks ay ?_
   refine cw ?_
   repeat (first|refine ac ?_|refine af (by decide) ?_|refine ab ?_|refine al ?_|refine ak ?_)
   exact done hI (by simp)

theorem jd {t:T} {S:av} {cs:List Value} (h:RdT S cs t):Pure Tryz.prog yV [.agg cs.toArray] S (.bool (iY t)):=by
 intro w hI
 obtain ⟨kv,rfl,_,_,hs,hks⟩:=RdT.iff.1 h
 obtain ⟨k,n,s,ks⟩:=t
 simp only [T.name,T.kids,T.kind,T.n] at hs hks ⊢
 refine r6 ?_
 unfold pA;dsimp only
 refine ca hI fun b1 w' hI=>?_
 refine az hI 0 rfl bt bj rfl ?_
 refine cw ?_
 rw [show iY (.mk k n s ks)=(decide (k=3) && (kw s && (!jT s ks.length && decide (dG s=0)))) from rfl]
 cases h1:decide (k=3)
 ·repeat (first|refine ac ?_|refine af (by decide) ?_|refine ab ?_|refine al ?_|refine ak ?_)
  exact done hI rfl
 ·repeat (first|refine ac ?_|refine af (by decide) ?_|refine ab ?_|refine al ?_|refine ak ?_)
  refine az hI 0 rfl bk bi rfl ?_
  refine Run.callPure qN rb hI (oC s hs S) fun w' hI=>?_
  cases h2:kw s
  ·repeat (first|refine ac ?_|refine af (by decide) ?_|refine ab ?_|refine al ?_|refine ak ?_)
   exact done hI rfl
  ·repeat (first|refine ac ?_|refine af (by decide) ?_|refine ab ?_|refine al ?_|refine ak ?_)
   refine az hI 0 rfl bk bi rfl ?_
   refine az hI 0 rfl aT aS rfl ?_
   refine a9 hks ay ?_
   refine Run.callPure lo kZ hI (ji s _ S) fun w' hI=>?_
   refine c9 ?_
   cases h3:jT s ks.length
   ·repeat (first|refine ac ?_|refine af (by decide) ?_|refine ab ?_|refine al ?_|refine ak ?_)
    refine az hI 0 rfl bk bi rfl ?_
    refine Run.callPure eI eK hI (dC s S) fun w' hI=>?_
    refine cw ?_
    repeat (first|refine ac ?_|refine af (by decide) ?_|refine ab ?_|refine al ?_|refine ak ?_)
    exact done hI rfl
   ·repeat (first|refine ac ?_|refine af (by decide) ?_|refine ab ?_|refine al ?_|refine ak ?_)
    exact done hI rfl

theorem xx {t:T} {S:av} {cs:List Value} (h:RdT S cs t):Pure Tryz.prog B5 [.agg cs.toArray] S (.bool (EJ t || (iY t || AS t))):=by
 intro w hI
 have h0:=h
 obtain ⟨kv,rfl,_,_,hs,hks⟩:=RdT.iff.1 h
 obtain ⟨k,n,s,ks⟩:=t
 simp only [T.name,T.kids,T.kind,T.n] at h0 hs hks ⊢
 refine tZ ?_
 unfold rq;dsimp only
 refine ca hI fun b1 w' hI=>?_
 refine a8 hI 0 ai rfl rfl ?_
 refine Run.callPure Bi Be hI (zl h0) fun w' hI=>?_
 cases h1:EJ (.mk k n s ks)
 ·repeat (first|refine ac ?_|refine af (by decide) ?_|refine ab ?_|refine al ?_|refine ak ?_)
  refine a8 hI 0 ai rfl rfl ?_
  refine Run.callPure jY jI hI (jd h0) fun w' hI=>?_
  cases h2:iY (.mk k n s ks)
  ·repeat (first|refine ac ?_|refine af (by decide) ?_|refine ab ?_|refine al ?_|refine ak ?_)
   refine az hI 0 rfl bt bj rfl ?_
   refine cw ?_
   rw [show AS (.mk k n s ks)=(decide (k=3) && jT s ks.length) from rfl]
   cases h3:decide (k=3)
   ·repeat (first|refine ac ?_|refine af (by decide) ?_|refine ab ?_|refine al ?_|refine ak ?_)
    exact done hI rfl
   ·repeat (first|refine ac ?_|refine af (by decide) ?_|refine ab ?_|refine al ?_|refine ak ?_)
    refine az hI 0 rfl bk bi rfl ?_
    refine az hI 0 rfl aT aS rfl ?_
    refine a9 hks ay ?_
    refine Run.callPure lo kZ hI (ji s _ S) fun w' hI=>?_
    repeat (first|refine ac ?_|refine af (by decide) ?_|refine ab ?_|refine al ?_|refine ak ?_)
    exact done hI rfl
  ·repeat (first|refine ac ?_|refine af (by decide) ?_|refine ab ?_|refine al ?_|refine ak ?_)
   exact done hI rfl
 ·repeat (first|refine ac ?_|refine af (by decide) ?_|refine ab ?_|refine al ?_|refine ak ?_)
  exact done hI rfl

theorem sM {t:T} (h:wT t<=1048576):dV t<=4611686018427387904:=by
 have:=BP t
 omega
theorem qq {t:T} {S:av} {cs:List Value} (h:RdT S cs t) (hc:wT t<=1048576):Pure Tryz.prog vR [.agg cs.toArray] S (.bool (kq t)):=by
 intro w hI
 have hl:=h.length
 refine pk ?_
 unfold k0
 refine ca hI fun b1 w' hI=>?_
 refine a8 hI 0 ai rfl (by simpa [Value.cells] using hl) ?_
 refine Run.callPure fa eV hI (el h (sM hc)) fun w' hI=>?_
 rw [kq]
 cases h1:dd t
 ·repeat (first|refine ac ?_|refine af (by decide) ?_|refine ab ?_|refine al ?_|refine ak ?_)
  exact done hI rfl
 ·repeat (first|refine ac ?_|refine af (by decide) ?_|refine ab ?_|refine al ?_|refine ak ?_)
  refine a8 hI 0 ai rfl (by simpa [Value.cells] using hl) ?_
  refine Run.callPure zq zk hI (xx h) fun w' hI=>?_
  repeat (first|refine ac ?_|refine af (by decide) ?_|refine ab ?_|refine al ?_|refine ak ?_)
  exact done hI rfl


theorem FF {ts:List T} {t:T} (h:t∈ts):wT t<=wL ts:=by
 induction ts with
 | nil=>simp at h
 | cons u us ih=>
  rw [wL]
  rcases List.mem_cons.1 h with rfl|h
  ·omega
  ·have:=ih h; omega
/- the loop of a list of goals, whatever comes behind it -/
theorem ik {c:C} {S:av} {cs:List Value} (h:RdC S cs c) (hc:wC c<=1048576):Pure Tryz.prog r7 [.agg cs.toArray] S (.bool (dt c)):=by
 intro w hI
 obtain ⟨hd,ks,rfl,h1,h2⟩:=h
 have h1':=h1
 obtain ⟨kv,rfl,g1,g2,g3,g4⟩:=RdT.iff.1 h1
 have hlen:=h2.le
 simp only [maxLen] at hlen
 unfold wC at hc
 refine mo ?_
 unfold jp;dsimp only
 refine ca hI fun b1 w' hI=>?_
 refine ⟨fun i w'=>∃ k:Nat,k<=c.body.length/\k<=7/\i=.int .i64 k/\(∀ j (h:j<c.body.length),j<k->kq c.body[j]=true)/\Inv w [] [.blk b1 (.cells #[.int .i64 c.head.kind,.int .i64 c.head.n,.string c.head.name,kv,ks] bb)] S w',
  fun i _=>c.body.length - (intOf i).toNat,⟨0,Nat.zero_le _,by omega,rfl,fun j _ h=>by omega,hI⟩,?_⟩
 intro t3 _ _ _ _ _ _ _ _ _ _ _ _ _ _ _ _ _ _ _ w'
 rintro ⟨k,hk,hk7,rfl,hrel,hI⟩
 refine ⟨fun t w'=>t=.bool (decide (k<c.body.length/\k<=6))/\Inv w [] [.blk b1 (.cells #[.int .i64 c.head.kind,.int .i64 c.head.n,.string c.head.name,kv,ks] bb)] S w',?_,?_⟩
 ·refine az hI 0 rfl cj aS rfl ?_
  refine a9 h2 ay ?_
  refine co ?_
  by_cases hki:(k:Int)<c.body.length
  ·rw [decide_eq_true hki]
   repeat (first|refine ac ?_|refine af (by decide) ?_|refine ab ?_|refine al ?_|refine ak ?_)
   refine fI ?_
   repeat (first|refine ac ?_|refine af (by decide) ?_|refine ab ?_|refine al ?_|refine ak ?_)
   refine ⟨?_,hI⟩
   congr 1
   rw [Bool.eq_iff_iff]; simp; omega
  ·rw [decide_eq_false hki]
   repeat (first|refine ac ?_|refine af (by decide) ?_|refine ab ?_|refine al ?_|refine ak ?_)
   exact ⟨by rw [decide_eq_false (by omega)],hI⟩
 intro t _ _ _ _ _ _ _ _ w'
 rintro ⟨rfl,hI⟩
 refine bp (fun hki=>?_) (fun hki=>?_)
 ·obtain ⟨hk',hk6⟩:=hki
  refine az hI 0 rfl cj aS rfl ?_
  refine ec hI h2 ay ai hk' (fun _ _=>RdT.length) fun cs' hcs'=>?_
  have hwm:=FF (List.getElem_mem hk')
  refine Run.callPure uw tz hI (qq hcs' (by omega)) fun w' hI=>?_
  refine c9 ?_
  refine aX (fun hb=>done hI ?_) (fun hb=>?_)
  ·have hb':kq c.body[k]=false:=by simpa using hb
   have:c.body.all kq=false:=by
    rw [<- Bool.not_eq_true,List.all_eq_true]
    intro hall
    rw [hall _ (List.getElem_mem hk')] at hb'
    cases hb'
   rw [dt,this]
   simp
  ·have hb':kq c.body[k]=true:=by simpa using hb
   refine bC (by omega) ?_
   refine ⟨⟨k+1,hk',by omega,rfl,fun j hj hjk=>?_,hI⟩,by simp [intOf]; omega⟩
   by_cases e:j=k
   ·subst e; exact hb'
   ·exact hrel j hj (by omega)
 ·refine az hI 0 rfl cj aS rfl ?_
  refine a9 h2 ay ?_
  refine fI ?_
  rw [dt]
  by_cases hle:c.body.length<=6
  ·have hall:c.body.all kq=true:=by
    rw [List.all_eq_true]
    intro x hx
    obtain ⟨j,hj,rfl⟩:=List.getElem_of_mem hx
    exact hrel j hj (by omega)
   rw [decide_eq_true (show (c.body.length:Int)<=6 by omega),decide_eq_true hle,hall]
   repeat (first|refine ac ?_|refine af (by decide) ?_|refine ab ?_|refine al ?_|refine ak ?_)
   refine bo eJ ?_
   refine ft hI 0 [.int .i64 c.head.kind,.int .i64 c.head.n,.string c.head.name,kv] ai rfl rfl ?_ ?_
   ·intro j v hj
    match j with
    | 0|1|2|3=>exact hj
    | j+4=>simp at hj
   refine Run.callPure fa eV hI (el h1' (sM (by omega))) fun w' hI=>?_
   cases hv:dd c.head
   ·repeat (first|refine ac ?_|refine af (by decide) ?_|refine ab ?_|refine al ?_|refine ak ?_)
    exact done hI rfl
   ·repeat (first|refine ac ?_|refine af (by decide) ?_|refine ab ?_|refine al ?_|refine ak ?_)
    refine bo eJ ?_
    refine ft hI 0 [.int .i64 c.head.kind,.int .i64 c.head.n,.string c.head.name,kv] ai rfl rfl ?_ ?_
    ·intro j v hj
     match j with
     | 0|1|2|3=>exact hj
     | j+4=>simp at hj
    refine Run.callPure jY jI hI (jd h1') fun w' hI=>?_
    repeat (first|refine ac ?_|refine af (by decide) ?_|refine ab ?_|refine al ?_|refine ak ?_)
    exact done hI rfl
  ·rw [decide_eq_false (show ¬ (c.body.length:Int)<=6 by omega),decide_eq_false hle]
   repeat (first|refine ac ?_|refine af (by decide) ?_|refine ab ?_|refine al ?_|refine ak ?_)
   exact done hI rfl

theorem gr {xs:List C} {S:av} {v:Value} (h:RdSl S 5 (RdC S) v xs) (hc:wP xs<=1048576):Pure Tryz.prog qb [v] S (.bool (qL xs)):=by
 intro w hI
 have hlen:=h.le
 simp only [maxLen] at hlen
 refine lJ ?_
 unfold iD
 refine ⟨fun i w'=>∃ k:Nat,k<=xs.length/\k<=20+1/\i=.int .i64 k/\(∀ j (h:j<xs.length),j<k->dt xs[j]=true)/\Inv w [] [] S w',
  fun i _=>xs.length - (intOf i).toNat,⟨0,Nat.zero_le _,by omega,rfl,fun j _ h=>by omega,hI⟩,?_⟩
 intro t3 _ _ _ _ _ _ _ _ _ _ _ _ _ _ _ _ _ w'
 rintro ⟨k,hk,hk7,rfl,hrel,hI⟩
 refine ⟨fun t w'=>t=.bool (decide (k<xs.length/\k<=20))/\Inv w [] [] S w',?_,?_⟩
 ·refine a9 h e9 ?_
  refine co ?_
  by_cases hki:(k:Int)<xs.length
  ·rw [decide_eq_true hki]
   repeat (first|refine ac ?_|refine af (by decide) ?_|refine ab ?_|refine al ?_|refine ak ?_)
   refine fI ?_
   repeat (first|refine ac ?_|refine af (by decide) ?_|refine ab ?_|refine al ?_|refine ak ?_)
   refine ⟨?_,hI⟩
   congr 1
   rw [Bool.eq_iff_iff]; simp; omega
  ·rw [decide_eq_false hki]
   repeat (first|refine ac ?_|refine af (by decide) ?_|refine ab ?_|refine al ?_|refine ak ?_)
   exact ⟨by rw [decide_eq_false (by omega)],hI⟩
 intro t _ _ _ _ _ _ _ w'
 rintro ⟨rfl,hI⟩
 refine bp (fun hki=>?_) (fun hki=>?_)
 ·obtain ⟨hk',hk6⟩:=hki
  refine ec hI h e9 cL hk' (fun _ _=>RdC.length) fun cs' hcs'=>?_
  have hwm:=BA (List.getElem_mem hk')
  refine Run.callPure jB jj hI (ik hcs' (by omega)) fun w' hI=>?_
  refine c9 ?_
  refine aX (fun hb=>done hI ?_) (fun hb=>?_)
  ·have hb':dt xs[k]=false:=by simpa using hb
   have:xs.all dt=false:=by
    rw [<- Bool.not_eq_true,List.all_eq_true]
    intro hall
    rw [hall _ (List.getElem_mem hk')] at hb'
    cases hb'
   rw [qL,this,Bool.and_false]
  ·have hb':dt xs[k]=true:=by simpa using hb
   refine bC (by omega) ?_
   refine ⟨⟨k+1,hk',by omega,rfl,fun j hj hjk=>?_,hI⟩,by simp [intOf]; omega⟩
   by_cases e:j=k
   ·subst e; exact hb'
   ·exact hrel j hj (by omega)
 ·refine a9 h e9 ?_
  refine fI ?_
  rw [qL]
  refine done hI ?_
  by_cases hle:xs.length<=20
  ·have hall:xs.all dt=true:=by
    rw [List.all_eq_true]
    intro x hx
    obtain ⟨j,hj,rfl⟩:=List.getElem_of_mem hx
    exact hrel j hj (by omega)
   rw [decide_eq_true (show (xs.length:Int)<=20 by omega),decide_eq_true hle,hall]; rfl
  ·rw [decide_eq_false (show ¬ (xs.length:Int)<=20 by omega),decide_eq_false hle]; rfl

/- the program's side -/
end Go.Proofs.YtemmhhdnlbmicaaGreat

/- A row of a function's own, handed to a function that only reads; rows of numbers. -/
namespace Go.Proofs.YtemmhhdnlbmicaaGreat
open Go Go.RowKit
attribute [local irreducible] Run CondV ag a4

def RowRd (S:av) (v:Value) (e:TypeId) (k n:Nat) (xs:List Value):Prop:=
 xs.length=n * k/\((v=.slice none 0 0/\n=0) ∨ ∃ g cap cur,v=.slice (some ⟨g,0,none⟩) n cap/\S g=some (.cells cur e)/\n<=cap/\cap<=maxLen/\cur.size=cap * k/\cur.toList.take (n * k)=xs)
theorem Inv.lend {w0 w:World} {X:List Nat} {A:List Item} {S:av} {v:Value} {e:TypeId} {k n:Nat} {xs:List Value} (h:Inv w0 X (A++[.row v e k n xs]) S w) :
  ∃ S',Sle S S'/\RowRd S' v e k n xs/\Inv w0 X A S' w/\∀ B w',Inv w0 X B S' w'->Inv w0 X (B++[.row v e k n xs]) S w':=by
 have hm:w.ownsRow 0 e k v n xs:=h.its (.row v e k n xs) (by simp)
 obtain ⟨hl,hm⟩:=hm
 rcases hm with ⟨rfl,rfl⟩|⟨g,cap,cur,rfl,_,hg,hnc,hcm,hcs,ht⟩
 ·have:xs=[]:=List.eq_nil_of_length_eq_zero (by rw [hl,Nat.zero_mul])
  subst this
  exact ⟨S,Sle.refl S,⟨hl,.inl ⟨rfl,rfl⟩⟩,h.sub (List.sublist_append_left _ _),fun B w' hB=>hB.rowNil e k⟩
 ·have hf:bF (A++[Item.blk g (.cells cur e)])=bF (A++[Item.row (.slice (some ⟨g,0,none⟩) n cap) e k n xs]):=by
   simp [bF,Item.foot,Value.ownBlock]
  have hg':g∈bF (A++[Item.row (.slice (some ⟨g,0,none⟩) n cap) e k n xs]):=by simp [bF,Item.foot,Value.ownBlock]
  have h':Inv w0 X (A++[Item.blk g (.cells cur e)]) S w:=by
   refine ⟨h.size,h.os,h.tape,h.output,h.old,fun it hit=>?_,by rw [hf]; exact h.nd,by rw [hf]; exact h.new,by rw [hf]; exact h.pub⟩
   rcases List.mem_append.1 hit with hit|hit
   ·exact h.its it (List.mem_append_left _ hit)
   ·simp at hit
    subst hit
    exact hg
  obtain ⟨h1,h2⟩:=h'.publishLast
  refine ⟨gz S g (.cells cur e),h2,⟨hl,.inr ⟨g,cap,cur,rfl,by simp [gz],hnc,hcm,hcs,ht⟩⟩,h1,fun B w' hB=>?_⟩
  have hpg:=hB.pub g (.cells cur e) (by simp [gz])
  have hfB:bF (B++[Item.row (.slice (some ⟨g,0,none⟩) n cap) e k n xs])=bF B++[g]:=by simp [bF,Item.foot,Value.ownBlock]
  refine ⟨hB.size,hB.os,hB.tape,hB.output,hB.old,fun it hit=>?_,?_,?_,?_⟩
  ·rcases List.mem_append.1 hit with hit|hit
   ·exact hB.its it hit
   ·simp at hit
    subst hit
    exact ⟨hl,.inr ⟨g,cap,cur,rfl,Nat.zero_le _,hpg.1,hnc,hcm,hcs,ht⟩⟩
  ·rw [hfB,List.nodup_append]
   refine ⟨hB.nd,by simp,fun a ha b hb=>?_⟩
   simp at hb
   subst hb
   intro e'
   subst e'
   exact hpg.2 ha
  ·intro c hc
   rw [hfB] at hc
   rcases List.mem_append.1 hc with hc|hc
   ·exact hB.new c hc
   ·simp at hc
    subst hc
    exact h.new _ hg'
  ·intro c o hc
   have hne:c≠g:=fun e'=>by
    subst e'
    exact (h.pub c o hc).2 hg'
   have:=hB.pub c o (by simp only [gz]; rw [if_neg hne]; exact hc)
   refine ⟨this.1,?_⟩
   rw [hfB]
   intro hc'
   rcases List.mem_append.1 hc' with hc'|hc'
   ·exact this.2 hc'
   ·simp at hc'
    exact hne hc'
theorem CH {α:Type} (f:α->List Value) (k:Nat) (hf:∀ y,(f y).length=k):∀ (ys:List α) (i:Nat) (h:i<ys.length),((ys.flatMap f).drop (i * k)).take k=f ys[i]
 | [],i,h=>by simp at h
 | y::ys,0,h=>by
  rw [List.flatMap_cons,Nat.zero_mul,List.drop_zero,List.take_append_of_le_length (by rw [hf]; exact Nat.le_refl _),List.take_of_length_le (by rw [hf]; exact Nat.le_refl _)]
  rfl
 | y::ys,i+1,h=>by
  rw [List.flatMap_cons,Nat.succ_mul,Nat.add_comm,<- List.drop_drop,List.drop_left' (hf y)]
  exact CH f k hf ys i (by simpa using h)
theorem RowRd.rd {α:Type} {S:av} {v:Value} {e:TypeId} {k:Nat} {f:α->List Value} {R:List Value->α->Prop} {ys:List α} (hf:∀ y,(f y).length=k) (hR:∀ y∈ys,R (f y) y)
  (h:RowRd S v e k ys.length (ys.flatMap f)):RdSl S k R v ys:=by
 obtain ⟨hl,h⟩:=h
 rcases h with ⟨rfl,h0⟩|⟨g,cap,cur,rfl,hS,hnc,hcm,hcs,ht⟩
 ·have:ys=[]:=List.eq_nil_of_length_eq_zero h0
  subst this
  exact ⟨none,0,rfl,Nat.le_refl _,Nat.zero_le _,.inl rfl⟩
 ·refine ⟨_,cap,rfl,hnc,hcm,.inr ⟨g,0,cur,e,(0,0),rfl,hS,fun i hi=>?_⟩⟩
  have:=CH f k hf ys i hi
  have hik:i * k+k<=ys.length * k:=by rw [<- Nat.succ_mul]; exact Nat.mul_le_mul_right k hi
  rw [<- ht,List.drop_take,List.take_take,Nat.min_eq_left (by omega)] at this
  rw [bf,Nat.zero_add,this]
  exact hR _ (List.getElem_mem hi)

/- rows of numbers -/
def ints (ns:List Int):List Value:=ns.flatMap fun n=>[.int .i64 n]
abbrev md (v:Value) (ns:List Int):Item:=.row v ir 1 ns.length (ints ns)
theorem Dg (ns:List Int) (n:Int):ints ns++[.int .i64 n]=ints (ns++[n]):=by simp [ints]
theorem RowRd.ints {S:av} {v:Value} {e:TypeId} {ns:List Int} (h:RowRd S v e 1 ns.length (ints ns)):RdSl S 1 CR v ns:=
 RowRd.rd (f:=fun n=>[Value.int .i64 n]) (fun _=>rfl) (fun _ _=>rfl) h
def iZ (l:List Int) (n:Int):Bool:=l.any fun x=>decide (n=x)
def oq (l:List Int) (n:Int):List Int:=if iZ l n=true then l else l++[n]
theorem Fm (l:List Int) (n:Int):(oq l n).length<=l.length+1:=by
 unfold oq
 split <;> simp

theorem zt (s:Int) {xs:List Int} {S:av} {v:Value} (h:RdSl S 1 CR v xs):Pure Tryz.prog Du [v,.int .i64 s] S (.bool (iZ xs s)):=by
 intro w hI
 have hlen:=h.le
 simp only [maxLen] at hlen
 refine vP ?_
 unfold uP
 refine ⟨fun i w'=>∃ k:Nat,k<=xs.length/\i=.int .i64 k/\iZ (xs.drop k) s=iZ xs s/\Inv w [] [] S w',fun i _=>xs.length - (intOf i).toNat,⟨0,Nat.zero_le _,rfl,rfl,hI⟩,?_⟩
 intro t5 _ _ _ _ _ _ _ _ _ _ _ _ _ w'
 rintro ⟨k,hk,rfl,hrel,hI⟩
 refine a9 h iR ?_
 refine co ?_
 refine bp (fun hki=>?_) (fun hki=>?_)
 ·have hk':k<xs.length:=by omega
  have hstep:iZ (xs.drop k) s=(decide (s=xs[k]) || iZ (xs.drop (k+1)) s):=sY _ xs k hk'
  refine jO hI h iR bj hk' (fun cs hcs=>hcs) ?_
  refine cw ?_
  refine bp (fun he=>done hI ?_) (fun he=>?_)
  ·rw [<- hrel,hstep,decide_eq_true he.symm]; rfl
  ·refine bC (by omega) ?_
   exact ⟨⟨k+1,hk',rfl,by rw [<- hrel,hstep,decide_eq_false (fun e=>he e.symm)]; rfl,hI⟩,by simp [intOf]; omega⟩
 ·have:k=xs.length:=by omega
  subst this
  exact done hI (by rw [<- hrel,List.drop_length]; rfl)

end Go.Proofs.YtemmhhdnlbmicaaGreat
