/- Data that a function has made for itself: trees of blocks that nobody else knows. -/
import Derived.Test.YtfcbhfjomgopbaaGreatZFuS
import Derived.Test.YtfcbhfjomgopbaaGreatZFuF
import Derived.Test.YtfcbhfjomgopbaaGreatZFugz
namespace Go.Proofs.YtfcbhfjomgopbaaGreat
section
open Go Go.RowKit
attribute [local irreducible] Run CondV aB aS

abbrev bh:=List (Nat × Obj)
def bt (L:bh):List Item:=L.map fun p=>.blk p.1 p.2
theorem eK (L M:bh):bt (L++M)=bt L++bt M:=by simp [bt]
def Ins (S:ae) (L:bh):Prop:=∀ p∈L,S p.1=some p.2
theorem Ins.mono {S S':ae} {L:bh} (h:Ins S L) (hs:Sle S S'):Ins S' L:=fun p hp=>hs _ _ (h p hp)
theorem Ins.left {S:ae} {L M:bh} (h:Ins S (L++M)):Ins S L:=fun p hp=>h p (List.mem_append_left _ hp)
theorem Ins.right {S:ae} {L M:bh} (h:Ins S (L++M)):Ins S M:=fun p hp=>h p (List.mem_append_right _ hp)
theorem je {L:bh} {b:Nat}:b∈bC (bt L)↔∃ p∈L,p.1=b:=by
 simp only [bC,bt,List.mem_flatMap,List.mem_map]
 constructor
 ·rintro ⟨it,⟨p,hp,rfl⟩,hb⟩
  simp only [Item.foot,List.mem_singleton] at hb
  exact ⟨p,hp,hb.symm⟩
 ·rintro ⟨p,hp,rfl⟩
  exact ⟨_,⟨p,hp,rfl⟩,by simp [Item.foot]⟩

theorem Inv.publishAll {w0 w:World} {X:List Nat} {A:List Item}:∀ (L:bh) {S:ae},Inv w0 X (A++bt L) S w->
  ∃ S',Inv w0 X A S' w/\Sle S S'/\Ins S' L/\∀ b o,S' b=some o->S b=some o ∨ b∈bC (bt L)
 | [],S,h=>⟨S,by simpa [bt] using h,Sle.refl S,by intro p hp; simp at hp,fun b o hb=>.inl hb⟩
 | p::L,S,h=>by
  have hi:(A++bt (p::L))[A.length]?=some (.blk p.1 p.2):=by simp [bt]
  obtain ⟨h1,h2⟩:=h.publish hi
  have he:(A++bt (p::L)).eraseIdx A.length=A++bt L:=by simp [bt,List.eraseIdx_append_of_length_le]
  rw [he] at h1
  obtain ⟨S',h3,h4,h5,h6⟩:=publishAll L h1
  refine ⟨S',h3,h2.trans h4,fun q hq=>?_,fun b o hb=>?_⟩
  ·rcases List.mem_cons.1 hq with rfl|hq
   ·exact h4 _ _ (by simp [rh])
   ·exact h5 q hq
  ·rcases h6 b o hb with h7|h7
   ·simp only [rh] at h7
    split at h7
    ·rename_i e; right; rw [je]; exact ⟨p,List.mem_cons_self ..,e.symm⟩
    ·exact .inl h7
   ·right
    obtain ⟨q,hq,e⟩:=je.1 h7
    exact je.2 ⟨q,List.mem_cons_of_mem _ hq,e⟩

def TrSl {α:Type} (k:Nat) (R:bh->List Value->α->Prop) (L:bh) (v:Value) (xs:List α):Prop:=
 ∃ a cap,v=.slice a xs.length cap/\xs.length<=cap/\cap<=maxLen/\
  ((xs=[]/\L=[]) ∨ ∃ b c E,∃ Ls:List bh,a=some ⟨b,0,none⟩/\L=(b,.cells c E)::Ls.flatten/\Ls.length=xs.length/\cap * k<=c.size/\
   ∀ i (h:i<xs.length) (h':i<Ls.length),R Ls[i] (aH c (i * k) k) xs[i])
inductive TrT:bh->List Value->T->Prop
 | nil {k n:Int} {s:ByteArray} {a:Option Addr} {cap:Nat} (hk:inI k) (hn:inI n) (hs:s.size<=maxLen) (hc:cap<=maxLen) :
   TrT [] [.int .i64 k,.int .i64 n,.string s,.slice a 0 cap] (.mk k n s [])
 | cons {k n:Int} {s:ByteArray} {kids:List T} {b cap:Nat} {c:Array Value} {E:TypeId} {Ls:List bh} (hk:inI k) (hn:inI n) (hs:s.size<=maxLen) (hl:kids.length<=cap) (hc:cap<=maxLen)
   (hLs:Ls.length=kids.length) (hsz:cap * 4<=c.size) (h:∀ i (h:i<kids.length) (h':i<Ls.length),TrT Ls[i] (aH c (i * 4) 4) kids[i]) :
   TrT ((b,.cells c E)::Ls.flatten) [.int .i64 k,.int .i64 n,.string s,.slice (some ⟨b,0,none⟩) kids.length cap] (.mk k n s kids)
theorem TrT.iff {L:bh} {cs:List Value} {t:T}:TrT L cs t ↔
  ∃ ks,cs=[.int .i64 t.kind,.int .i64 t.n,.string t.name,ks]/\inI t.kind/\inI t.n/\t.name.size<=maxLen/\TrSl 4 TrT L ks t.kids:=by
 constructor
 ·intro h
  cases h with
  | nil hk hn hs hc=>exact ⟨_,rfl,hk,hn,hs,_,_,rfl,Nat.zero_le _,hc,.inl ⟨rfl,rfl⟩⟩
  | cons hk hn hs hl hc hLs hsz h=>exact ⟨_,rfl,hk,hn,hs,_,_,rfl,hl,hc,.inr ⟨_,_,_,_,rfl,rfl,hLs,hsz,h⟩⟩
 ·obtain ⟨k,n,s,kids⟩:=t
  rintro ⟨ks,rfl,hk,hn,hs,a,cap,rfl,hl,hc,h⟩
  rcases h with ⟨h,rfl⟩|⟨b,c,E,Ls,rfl,rfl,hLs,hsz,h⟩
  ·simp only [T.kids] at h
   subst h
   exact TrT.nil hk hn hs hc
  ·exact TrT.cons hk hn hs hl hc hLs hsz h
theorem TrT.length {L:bh} {cs:List Value} {t:T} (h:TrT L cs t):cs.length=4:=by
 obtain ⟨ks,rfl,_⟩:=TrT.iff.1 h; rfl
theorem TrT.one {L:bh} {cs:List Value} {t:T} (h:TrT L cs t):∀ u∈cs,u.oneCell'=true:=by
 obtain ⟨ks,rfl,_,_,_,a,cap,rfl,_⟩:=TrT.iff.1 h
 intro u hu
 simp at hu
 rcases hu with rfl|rfl|rfl|rfl <;> rfl
theorem RdT.one {S:ae} {cs:List Value} {t:T} (h:RdT S cs t):∀ u∈cs,u.oneCell'=true:=by
 obtain ⟨ks,rfl,_,_,_,a,cap,rfl,_⟩:=RdT.iff.1 h
 intro u hu
 simp at hu
 rcases hu with rfl|rfl|rfl|rfl <;> rfl
theorem AZ {S:ae} {Ls:List bh} (h:Ins S Ls.flatten) {i:Nat} (hi:i<Ls.length):Ins S Ls[i]:=
 fun p hp=>h p (List.mem_flatten.2 ⟨_,List.getElem_mem hi,hp⟩)
theorem TrSl.rd {α:Type} {S:ae} {k:Nat} {R:bh->List Value->α->Prop} {R':List Value->α->Prop} {L:bh} {v:Value} {xs:List α} (h:TrSl k R L v xs) (hi:Ins S L)
  (hR:∀ L cs x,Ins S L->R L cs x->R' cs x):RdSl S k R' v xs:=by
 obtain ⟨a,cap,rfl,hl,hc,h⟩:=h
 refine ⟨a,cap,rfl,hl,hc,?_⟩
 rcases h with ⟨h,_⟩|⟨b,c,E,Ls,rfl,rfl,hLs,hsz,h⟩
 ·exact .inl h
 ·refine .inr ⟨b,0,c,E,(0,0),rfl,hi _ (List.mem_cons_self ..),fun i h1=>?_⟩
  rw [Nat.zero_add]
  exact hR _ _ _ (AZ (fun p hp=>hi p (List.mem_cons_of_mem _ hp)) (by omega)) (h i h1 (by omega))
theorem TrT.rd {S:ae} {L:bh} {cs:List Value} {t:T} (h:TrT L cs t) (hi:Ins S L):RdT S cs t:=by
 induction h with
 | nil hk hn hs hc=>exact RdT.nil hk hn hs hc
 | cons hk hn hs hl hc hLs hsz h ih=>
  refine RdT.cons hk hn hs hl hc (hi _ (List.mem_cons_self ..)) (o:=0) fun i h1=>?_
  rw [Nat.zero_add]
  exact ih i h1 (by omega) (AZ (fun p hp=>hi p (List.mem_cons_of_mem _ hp)) (by omega))
def TrC (L:bh) (cs:List Value) (c:C):Prop:=∃ hd ks L1 L2,cs=hd++[ks]/\L=L1++L2/\TrT L1 hd c.head/\TrSl 4 TrT L2 ks c.body
theorem TrC.rd {S:ae} {L:bh} {cs:List Value} {c:C} (h:TrC L cs c) (hi:Ins S L):RdC S cs c:=by
 obtain ⟨hd,ks,L1,L2,rfl,rfl,h1,h2⟩:=h
 exact ⟨hd,ks,rfl,h1.rd hi.left,h2.rd hi.right fun _ _ _ hi h=>h.rd hi⟩
theorem TrC.length {L:bh} {cs:List Value} {c:C} (h:TrC L cs c):cs.length=5:=by
 obtain ⟨hd,ks,L1,L2,rfl,rfl,h1,h2⟩:=h; simp [h1.length]
theorem TrC.one {L:bh} {cs:List Value} {c:C} (h:TrC L cs c):∀ u∈cs,u.oneCell'=true:=by
 obtain ⟨hd,ks,L1,L2,rfl,rfl,h1,a,cap,rfl,_⟩:=h
 intro u hu
 rcases List.mem_append.1 hu with hu|hu
 ·exact h1.one u hu
 ·simp at hu; subst hu; rfl

section
variable {P:Program} {w w0:World} {X:List Nat} {L:List Item} {S:ae} {K:Value->World->Prop}
theorem Run.call0 {f:FuncId} {fn:Func} {args:List Value} {Post:Value->List Item->ae->Prop}
  (hf:P.funcs[f]?=some fn) (hn:(fn.name == "runtime.NumGoroutine" || fn.body.isNone)=false) (h:Inv w0 X L S w) (hc:Tri P f args [] S Post)
  (hk:∀ v I' S' w',Post v I' S'->Sle S S'->Inv w0 X (L++I') S' w'->K v w'):Run P (eo (.func (.func f) #[] #[]) args) w K:=
 Run.call (A:=L) (I:=[]) hf hn (by simpa using h) hc hk
theorem cJ {T U ty ty' E:TypeId} {f d b:Nat} {c:Array Value} {v:Value} (hI:Inv w0 X L S w) (i:Nat) (hi:L[i]?=some (.blk b (.cells c E))) (hf:bO P T f=some d) (hU:iq P U=true) (hlt:Nat.blt d c.size=true)
  (hv:v.cells=#[v]) (h1:v.oneCell'=true)
  {K:Value->Value->World->Prop} (hk:∀ w',Inv w0 X (L.set i (.blk b (.cells (c.setIfInBounds d v) E))) S w'->K (.pointer (some ⟨b,d,none⟩)) undef w') :
  Run P (sOp (.fieldAddr T (.const (.pointer (some ⟨b,0,none⟩))) f) ty) w fun q w'=>Run P (sOp (.store U (.const q) (.const v)) ty') w' (K q):=by
 have hlt:d<c.size:=by simpa [Nat.blt_eq] using hlt
 refine ai hf ?_
 rw [Nat.zero_add]
 refine dA hI i (n:=1) (by rw [hv]; rfl) (by rw [hU]; rfl) hi (by omega) (by rw [hv]; simpa using h1) fun w' hI'=>hk w' ?_
 have:bx c d v.cells.toList=c.setIfInBounds d v:=by
  rw [hv]
  apply Array.toList_inj.1
  simp only [bx,Array.toList_setIfInBounds]
  have hl:d<c.toList.length:=by simpa using hlt
  rw [List.set_eq_take_append_cons_drop,if_pos hl]
  simp
 rw [this] at hI'
 exact hI'
theorem kP {T ty E:TypeId} {o b n:Nat} {c:Array Value} {v:Value} (hI:Inv w0 X L S w) (i:Nat) (hi:L[i]?=some (.blk b (.cells c E))) (hT:kj P T=some n) (hn:v.cells.size=n) (hfit:Nat.ble (o+n) c.size=true)
  (h1:∀ u∈v.cells.toList,u.oneCell'=true) (hk:∀ w',Inv w0 X (L.set i (.blk b (.cells (bx c o v.cells.toList) E))) S w'->K undef w') :
  Run P (sOp (.store T (.const (.pointer (some ⟨b,o,none⟩))) (.const v)) ty) w K:=
 dA hI i hn (by rw [hT]; simp) hi (Nat.le_of_ble_eq_true hfit) h1 hk
theorem aq {T ty E:TypeId} {b n:Nat} {c cs:Array Value} (hI:Inv w0 X L S w) (i:Nat) (hi:L[i]?=some (.blk b (.cells c E))) (hT:kj P T=some n) (hn:cs.size=n) (hc:c.size=n)
  (h1:∀ u∈cs.toList,u.oneCell'=true) (hk:∀ w',Inv w0 X (L.set i (.blk b (.cells cs E))) S w'->K undef w') :
  Run P (sOp (.store T (.const (.pointer (some ⟨b,0,none⟩))) (.const (.agg cs))) ty) w K:=by
 refine dA hI i (v:=.agg cs) (n:=n) hn (by rw [hT]; simp) hi (by omega) h1 fun w' hI'=>hk w' ?_
 have:bx c 0 (Value.agg cs).cells.toList=cs:=by
  rw [vX _ _ (by simp [Value.cells,hn,hc])]
  simp [Value.cells]
 rw [this] at hI'
 exact hI'
theorem JL {T U ty ty' E E':TypeId} {k b len cap j:Nat} {c:Array Value} {v:Value} (hI:Inv w0 X L S w) (i:Nat) (hi:L[i]?=some (.blk b (.cells c E'))) (hu:cF P T=some (E,k)) (hU:kj P U=some k)
  (hj:j<len) (hfit:(j+1) * k<=c.size) (hv:v.cells.size=k) (h1:∀ u∈v.cells.toList,u.oneCell'=true)
  {K:Value->Value->World->Prop} (hk:∀ w',Inv w0 X (L.set i (.blk b (.cells (bx c (j * k) v.cells.toList) E'))) S w'->K (.pointer (some ⟨b,j * k,none⟩)) undef w') :
  Run P (sOp (.indexAddr T (.const (.slice (some ⟨b,0,none⟩) len cap)) (.const (.int .i64 j))) ty) w fun p w'=>Run P (sOp (.store U (.const p) (.const v)) ty') w' (K p):=by
 refine ar hu hj ?_
 rw [Nat.zero_add]
 exact dA hI i (n:=k) hv (by rw [hU]; simp) hi (by rw [Nat.add_mul,Nat.one_mul] at hfit; omega) h1 hk
end

theorem TrSl.nil {α:Type} {k:Nat} {R:bh->List Value->α->Prop} {a:Option Addr} {cap:Nat} (hc:cap<=maxLen):TrSl k R [] (.slice a 0 cap) ([]:List α):=
 ⟨a,cap,rfl,Nat.zero_le _,hc,.inl ⟨rfl,rfl⟩⟩
def Part {α:Type} (k:Nat) (R:bh->List Value->α->Prop) (c:Array Value) (Ls:List bh) (xs:List α):Prop:=
 Ls.length=xs.length/\∀ i (h:i<xs.length) (h':i<Ls.length),R Ls[i] (aH c (i * k) k) xs[i]
theorem Part.nil {α:Type} (k:Nat) (R:bh->List Value->α->Prop) (c:Array Value):Part k R c [] ([]:List α):=⟨rfl,fun i h=>by simp at h⟩
theorem Part.snoc {α:Type} {k:Nat} {R:bh->List Value->α->Prop} {c:Array Value} {Ls:List bh} {xs:List α} (h:Part k R c Ls xs) {cs:List Value} {L:bh} {x:α} (hx:R L cs x) (hl:cs.length=k)
  (hfit:(xs.length+1) * k<=c.size):Part k R (bx c (xs.length * k) cs) (Ls++[L]) (xs++[x]):=by
 have hf:xs.length * k+cs.length<=c.size:=by rw [hl]; rw [Nat.add_mul,Nat.one_mul] at hfit; exact hfit
 refine ⟨by simp [h.1],fun i h1 h2=>?_⟩
 by_cases hi:i<xs.length
 ·have h3:i<Ls.length:=by rw [h.1]; exact hi
  rw [List.getElem_append_left h3,List.getElem_append_left hi,iA hf]
  ·exact h.2 i hi h3
  ·left
   have:(i+1) * k<=xs.length * k:=Nat.mul_le_mul_right _ hi
   rw [Nat.add_mul,Nat.one_mul] at this
   exact this
 ·have hi':i=xs.length:=by simp at h1; omega
  subst hi'
  have h3:xs.length=Ls.length:=h.1.symm
  rw [List.getElem_append_right (by omega),List.getElem_append_right (by omega)]
  simp only [h3,Nat.sub_self,List.getElem_cons_zero]
  rw [<- h3,<- hl,gA (by rw [hl] at hf ⊢; exact hf)]
  exact hx
theorem Part.sl {α:Type} {k:Nat} {R:bh->List Value->α->Prop} {b:Nat} {c:Array Value} {E:TypeId} {Ls:List bh} {xs:List α} {cap:Nat} (h:Part k R c Ls xs) (h1:xs.length<=cap) (h2:cap<=maxLen) (h3:cap * k<=c.size) :
  TrSl k R ((b,.cells c E)::Ls.flatten) (.slice (some ⟨b,0,none⟩) xs.length cap) xs:=
 ⟨_,cap,rfl,h1,h2,.inr ⟨b,c,E,Ls,rfl,rfl,h.1,h3,h.2⟩⟩
end
section
open Go Go.RowKit
section
variable {P:Program} {w:World} {K:Value->World->Prop} {ty:TypeId}
attribute [local irreducible] Run CondV aB aS
theorem iL {a:Bool} {v:Value} {A:Prop} (ht:a=true->A) (hf:a=false->K (.bool false) w):aB (.bool a) true A (Run P (sOp (.pick (.const (.bool a)) (.const v) (.const (.bool false))) ty) w K):=
 Lu ht fun h=>by
  have h':a=false:=by simpa using h
  refine uj ?_
  rw [h']
  exact hf h'
theorem gq {a:Bool} {v u:Value} (ha:a=true) (hk:K v w):Run P (sOp (.pick (.const (.bool a)) (.const v) (.const u)) ty) w K:=by
 refine uj ?_
 rw [ha]
 exact hk
theorem oE {v:Value} {A:Prop} (hk:K (.bool false) w):aB (.bool false) true A (Run P (sOp (.pick (.const (.bool false)) (.const v) (.const (.bool false))) ty) w K):=
 iL (fun h=>by cases h) fun _=>hk
theorem uG {a:Bool} {v:Value} {A:Prop} (ht:a=true->K (.bool true) w) (hf:a=false->A):aB (.bool a) false A (Run P (sOp (.pick (.const (.bool a)) (.const (.bool true)) (.const v)) ty) w K):=
 Lu hf fun h=>by
  have h':a=true:=by simpa using h
  refine uj ?_
  rw [h']
  exact ht h'
theorem nt {a:Bool} {v u:Value} (ha:a=false) (hk:K v w):Run P (sOp (.pick (.const (.bool a)) (.const u) (.const v)) ty) w K:=by
 refine uj ?_
 rw [ha]
 exact hk
theorem TL {v:Value} {A:Prop} (hk:K (.bool true) w):aB (.bool true) false A (Run P (sOp (.pick (.const (.bool true)) (.const (.bool true)) (.const v)) ty) w K):=
 uG (fun _=>hk) fun h=>by cases h
end

def oh (cs:List Value) (s:ByteArray):Prop:=cs=[.string s]
def ik (cs:List Value) (n:Int):Prop:=cs=[.int .i64 n]
section
variable {P:Program} {w w0:World} {X:List Nat} {L:List Item} {S:ae} {K:Value->World->Prop}
attribute [local irreducible] Run CondV aB aS
theorem rg (h:Inv w0 X L S w) {s:Sem Next} {v:Nat->Value} {o:Obj} (hr:s.run P w=.ok (.value (v w.heap.size)) { w with heap:=w.heap.push o })
  (hk:∀ b w',Inv w0 X (L++[.blk b o]) S w'->K (v b) w'):Run P s w K:=Run.of hr (hk _ _ (h.alloc o))
theorem Inv.publishLast {b:Nat} {o:Obj} (h:Inv w0 X (L++[.blk b o]) S w):Inv w0 X L (rh S b o) w/\Sle S (rh S b o):=by
 have hi:(L++[Item.blk b o])[L.length]?=some (.blk b o):=by simp
 have:=h.publish hi
 rwa [show (L++[Item.blk b o]).eraseIdx L.length=L by simp [List.eraseIdx_append_of_length_le]] at this
theorem fy {α:Type} {T U ty ty' E:TypeId} {R:List Value->α->Prop} {v u:Value} {xs:List α} (hI:Inv w0 X L S w) (h:RdSl S 1 R v xs) (hu:cF P T=some (E,1)) (hU:iq P U=true)
  {i:Nat} (hi:i<xs.length) (hR:∀ cs,R cs xs[i]->cs=[u]) {K:Value->Value->World->Prop} (hk:K (elP v (i * 1)) u w) :
  Run P (sOp (.indexAddr T (.const v) (.const (.int .i64 i))) ty) w fun p w'=>Run P (sOp (.load U (.const p)) ty') w' (K p):=by
 obtain ⟨b,o,cap,c,E',fz,rfl,hS,hr⟩:=h.at_ hi
 refine ar hu hi ?_
 refine ce hU ?_ hk
 rw [hI.cellS hS]
 exact au (hR _ hr) 0 u rfl
end
theorem RdSl.ofCells {α:Type} {S:ae} {R:List Value->α->Prop} {b n:Nat} {c:Array Value} {E:TypeId} {fz:Nat × Nat} {xs:List α} (hS:S b=some (.cells c E fz)) (hn:xs.length=n) (hm:n<=maxLen)
  (h:∀ i (h:i<xs.length),R (aH c i 1) xs[i]):RdSl S 1 R (.slice (some ⟨b,0,none⟩) n n) xs:=by
 subst hn
 exact ⟨_,_,rfl,Nat.le_refl _,hm,.inr ⟨b,0,c,E,fz,rfl,hS,fun i hi=>by rw [Nat.zero_add,Nat.mul_one]; exact h i hi⟩⟩
end
section
open Go

def signs:List ByteArray:=[⟨#[43]⟩,⟨#[45]⟩,⟨#[42]⟩,⟨#[47,47]⟩,⟨#[61]⟩,⟨#[92,61]⟩,⟨#[61,61]⟩,⟨#[60]⟩,⟨#[62]⟩,⟨#[61,60]⟩,⟨#[62,61]⟩,⟨#[61,58,61]⟩,⟨#[46]⟩,⟨#[91,93]⟩,⟨#[33]⟩]
def qy (b:UInt8):Bool:=decide (97<=b.toNat) && decide (b.toNat<=122)
def qB (s:ByteArray):Bool:=s.data.toList.all qy
def mt (s:ByteArray):Bool:=qB s && (decide (1<=s.size) && decide (s.size<=6))
def md (s:ByteArray):Bool:=mt s || signs.any fun x=>decide (x=s)
def emptyB:ByteArray:=⟨#[]⟩
def eM (t:T):Bool:=
 if t.kind=1 then decide (0<=t.n) && (decide (t.n<=25) && (decide (t.name=emptyB) && decide (t.kids.length=0)))
 else if t.kind=2 then decide (-999<=t.n) && (decide (t.n<=999) && (decide (t.name=emptyB) && decide (t.kids.length=0)))
 else if t.kind=3 then decide (t.n=0) && (md t.name && decide (t.kids.length<=4))
 else false
mutual
def eZ:T->Int->Bool
 | .mk k n s ks,d=>if d<1 then false else eM (.mk k n s ks) && eV ks (d - 1)
def eV:List T->Int->Bool
 | [],_=>true
 | t::ts,d=>eZ t d && eV ts d
end
mutual
def dE:T->Int
 | .mk _ _ _ ks=>1+dd ks
def dd:List T->Int
 | []=>0
 | t::ts=>dE t+dd ts
end
mutual
def jP:T->Int->Int
 | .mk _ _ _ ks,most=>f1 ks 1 most
def f1:List T->Int->Int->Int
 | [],n,_=>n
 | t::ts,n,most=>if n<=most then f1 ts (n+jP t (most - n)) most else n
end
def dg (t:T):Bool:=eZ t 30 && decide (dE t<=120)

mutual
theorem jy:∀ t:T,1<=dE t
 | .mk _ _ _ ks=>by simp only [dE]; have:=dX ks; omega
theorem dX:∀ ts:List T,0<=dd ts
 | []=>by simp [dd]
 | t::ts=>by simp only [dd]; have:=jy t; have:=dX ts; omega
end
mutual
theorem yb:∀ (t:T) (most:Int),0<=most->(dE t<=most->jP t most=dE t)/\(most<dE t->most<jP t most/\jP t most<=dE t)
 | .mk _ _ _ ks,most,h=>by
  simp only [dE,jP]
  have:=FY ks 1 most h (by omega)
  exact this
theorem FY:∀ (ts:List T) (n most:Int),0<=most->1<=n->(n+dd ts<=most->f1 ts n most=n+dd ts)/\(most<n+dd ts->most<f1 ts n most/\f1 ts n most<=n+dd ts)
 | [],n,most,h,h1=>by
  simp only [dd,f1]
  exact ⟨fun _=>by omega,fun _=>by omega⟩
 | t::ts,n,most,h,h1=>by
  simp only [dd,f1]
  have hp:=jy t
  have hl:=dX ts
  by_cases hn:n<=most
  ·rw [if_pos hn]
   have ht:=yb t (most - n) (by omega)
   by_cases hc:dE t<=most - n
   ·rw [ht.1 hc]
    have hr:=FY ts (n+dE t) most h (by omega)
    exact ⟨fun h2=>by rw [hr.1 (by omega)]; omega,fun h2=>by have:=hr.2 (by omega); omega⟩
   ·have h3:=ht.2 (by omega)
    have h4:f1 ts (n+jP t (most - n)) most=n+jP t (most - n):=by
     cases ts with
     | nil=>rfl
     | cons u us=>rw [f1,if_neg (by omega)]
    rw [h4]
    exact ⟨fun h2=>by omega,fun h2=>by omega⟩
  ·rw [if_neg hn]
   exact ⟨fun h2=>by omega,fun h2=>by omega⟩
end
theorem Ow (t:T):decide (jP t 120<=120)=decide (dE t<=120):=by
 have h:=yb t 120 (by omega)
 by_cases hc:dE t<=120
 ·rw [h.1 hc]
 ·have:=h.2 (by omega)
  rw [decide_eq_false (by omega),decide_eq_false hc]

mutual
def fp:T->Int->Int->Bool × Int
 | .mk k n s ks,deep,c=>
  if 120<c+1 ∨ 30<deep then (false,c+1)
  else if k=1 ∨ k=2 then (eM (.mk k n s ks),c+1)
  else if k=3 then (if eM (.mk k n s ks) then lC ks (deep+1) (c+1) else (false,c+1))
  else (false,c+1)
def lC:List T->Int->Int->Bool × Int
 | [],_,c=>(true,c)
 | t::ts,deep,c=>if (fp t deep c).1 then lC ts deep (fp t deep c).2 else (false,(fp t deep c).2)
end
theorem OD {k n:Int} {s:ByteArray} {ks:List T} (h:eM (.mk k n s ks)=true) (hk:k=1 ∨ k=2):ks=[]:=by
 unfold eM at h
 simp only [T.kind,T.n,T.name,T.kids] at h
 rcases hk with rfl|rfl <;> simp at h <;> exact h.2.2.2
theorem PK {k n:Int} {s:ByteArray} {ks:List T} (h:eM (.mk k n s ks)=true):k=1 ∨ k=2 ∨ k=3:=by
 unfold eM at h
 simp only [T.kind,T.n,T.name,T.kids] at h
 by_cases h1:k=1
 ·exact .inl h1
 ·by_cases h2:k=2
  ·exact .inr (.inl h2)
  ·by_cases h3:k=3
   ·exact .inr (.inr h3)
   ·simp [h1,h2,h3] at h
mutual
theorem Cy:∀ (t:T) (deep c:Int),(fp t deep c).1=(eZ t (31 - deep) && decide (c+dE t<=120))/\((fp t deep c).1=true->(fp t deep c).2=c+dE t)
 | .mk k n s ks,deep,c=>by
  have hl:=dX ks
  rw [show dE (T.mk k n s ks)=1+dd ks from rfl]
  simp only [fp,eZ]
  by_cases h1:120<c+1 ∨ 30<deep
  ·rw [if_pos h1]
   refine ⟨?_,fun h=>by cases h⟩
   rcases h1 with h1|h1
   ·rw [decide_eq_false (show ¬ (c+(1+dd ks)<=120) by omega),Bool.and_false]
   ·rw [if_pos (show 31 - deep<1 by omega)]; rfl
  ·rw [if_neg h1,if_neg (show ¬ (31 - deep<1) by omega)]
   by_cases h2:k=1 ∨ k=2
   ·rw [if_pos h2]
    cases ho:eM (.mk k n s ks) with
    | false=>exact ⟨rfl,fun h=>by cases h⟩
    | true=>
     have:=OD ho h2
     subst this
     rw [show dd []=0 from rfl]
     simp only [eV,Bool.true_and]
     exact ⟨by rw [decide_eq_true (show c+(1+0)<=120 by omega)],fun _=>by omega⟩
   ·rw [if_neg h2]
    by_cases h3:k=3
    ·rw [if_pos h3]
     cases ho:eM (.mk k n s ks) with
     | false=>exact ⟨rfl,fun h=>by cases h⟩
     | true=>
      simp only [if_true,Bool.true_and]
      have:=Iq ks (deep+1) (c+1)
      rw [show 31 - (deep+1)=31 - deep - 1 by omega] at this
      rw [show c+(1+dd ks)=c+1+dd ks by omega]
      refine ⟨?_,this.2⟩
      rw [this.1]
      cases ks with
      | nil=>rw [show dd []=0 from rfl,decide_eq_true (show c+1+0<=120 by omega)]; rfl
      | cons t ts=>simp
    ·rw [if_neg h3]
     have ho:eM (.mk k n s ks)=false:=by
      rw [<- Bool.not_eq_true]
      intro h
      rcases PK h with e|e|e
      ·exact h2 (.inl e)
      ·exact h2 (.inr e)
      ·exact h3 e
     rw [ho]
     exact ⟨rfl,fun h=>by cases h⟩
theorem Iq:∀ (ts:List T) (deep c:Int),(lC ts deep c).1=(eV ts (31 - deep) && (ts.isEmpty || decide (c+dd ts<=120)))/\((lC ts deep c).1=true->(lC ts deep c).2=c+dd ts)
 | [],deep,c=>by simp [lC,eV,dd]
 | t::ts,deep,c=>by
  have ht:=Cy t deep c
  have hp:=dX ts
  rw [show dd (t::ts)=dE t+dd ts from rfl]
  simp only [lC,eV,List.isEmpty_cons,Bool.false_or]
  cases h1:(fp t deep c).1 with
  | false=>
   rw [h1] at ht
   have h2:=ht.1
   refine ⟨?_,fun h=>by cases h⟩
   simp only [Bool.false_eq_true,if_false]
   cases hs:eZ t (31 - deep) with
   | false=>rfl
   | true=>
    rw [hs,Bool.true_and] at h2
    have:¬ (c+dE t<=120):=of_decide_eq_false h2.symm
    rw [decide_eq_false (show ¬ (c+(dE t+dd ts)<=120) by omega),Bool.and_false]
  | true=>
   rw [h1] at ht
   have h2:=ht.1
   have h3:=ht.2 rfl
   simp only [if_true]
   rw [h3]
   have hs:eZ t (31 - deep)=true/\c+dE t<=120:=by
    have:=h2.symm
    simpa using this
   have hl:=Iq ts deep (c+dE t)
   rw [show c+(dE t+dd ts)=c+dE t+dd ts by omega]
   refine ⟨?_,hl.2⟩
   rw [hl.1,hs.1,Bool.true_and]
   cases ts with
   | nil=>rw [show dd []=0 from rfl,decide_eq_true (show c+dE t+0<=120 by omega)]; rfl
   | cons u us=>simp
end
theorem LD (t:T):(fp t 1 0).1=dg t:=by
 rw [(Cy t 1 0).1,dg]
 simp
end
section
open Go Go.RowKit
attribute [local irreducible] Run CondV aB aS

mutual
def wT:T->Nat
 | .mk _ _ s ks=>s.size+ks.length+wL ks
def wL:List T->Nat
 | []=>0
 | t::ts=>wT t+wL ts
end
theorem lD:∀ {ts:List T} {t:T},t∈ts->wT t<=wL ts
 | x::xs,t,h=>by
  simp only [wL]
  rcases List.mem_cons.1 h with rfl|h
  ·omega
  ·have:=lD h; omega

abbrev Pe {α:Type} (k:Nat) (R:bh->List Value->α->Prop) (S:ae) (xs:List α):Value->List Item->ae->Prop:=
 fun v I' S'=>S'=S/\∃ L,I'=bt L/\TrSl k R L v xs
abbrev FH (S:ae) (t:T):Value->List Item->ae->Prop:=fun v I' S'=>S'=S/\∃ cs L,v=.agg cs.toArray/\I'=bt L/\TrT L cs t

theorem Df {ts:List T} (ih:∀ t∈ts,∀ (S:ae) (cs:List Value),RdT S cs t->wT t<=1048576->Tri Tryz.prog ul [.agg cs.toArray] [] S (FH S t))
  {S:ae} {v:Value} (h:RdSl S 4 (RdT S) v ts) (hw:ts.length+wL ts<=1048576):Tri Tryz.prog qx [v] [] S (Pe 4 TrT S ts):=by
 intro w hI
 refine wt.2 ?_
 dsimp only[wt,aL]
 refine aC h xV ?_
 refine zk hI bp (by omega) (by omega) fun b c w' hc hI=>?_
 refine ⟨fun i w'=>∃ (k:Nat) (c:Array Value) (Ls:List bh),k<=ts.length/\i=.int .i64 k/\c.size=ts.length * 4/\Part 4 TrT c Ls (ts.take k)/\Inv w [] (bt ((b,.cells c ab)::Ls.flatten)) S w',
  fun i _=>ts.length - (intOf i).toNat,⟨0,c,[],Nat.zero_le _,rfl,hc,Part.nil _ _ _,hI⟩,?_⟩
 intro t4 _ _ _ _ _ _ _ _ _ _ _ _ _ _ w'
 rintro ⟨k,c,Ls,hk,rfl,hc,hp,hI⟩
 refine aC h xV ?_
 refine bq ?_
 refine aI (fun hki=>?_) (fun hki=>?_)
 ·have hk':k<ts.length:=by omega
  have htl:(ts.take k).length=k:=by simp; omega
  refine bY hI h xV Jh hk' (fun _ _=>RdT.length) fun cs hcs=>?_
  have hm:=List.getElem_mem hk'
  have hwm:=lD hm
  refine Run.call0 p8 qQ hI (ih _ hm S cs hcs (by omega)) fun v' I' S' w'=>?_
  rintro ⟨rfl,cs',L,rfl,rfl,hT⟩ _ hI
  refine JL hI 0 (k:=4) (by rfl) af ac hk' (by omega) (by simp [Value.cells,hT.length]) (by simpa [Value.cells] using hT.one) fun w' hI=>?_
  refine bl (by omega) ?_
  refine ⟨⟨k+1,bx c (k * 4) cs',Ls++[L],hk',rfl,?_,?_,?_⟩,by simp [intOf]; omega⟩
  ·rw [gL _ _ _ (by rw [hT.length]; omega)]; exact hc
  ·have:=hp.snoc hT hT.length (by rw [htl]; omega)
   rw [htl] at this
   rw [List.take_succ_eq_append_getElem hk']
   exact this
  ·simp only [List.flatten_append,List.flatten_cons,List.flatten_nil,List.append_nil]
   simpa [bt,Value.cells] using hI
 ·have:k=ts.length:=by omega
  subst this
  rw [List.take_length] at hp
  exact ⟨_,_,_,rfl,hI,Ext.refl _ _ _,rfl,_,rfl,hp.sl (Nat.le_refl _) (by simp only [maxLen]; omega) (by omega)⟩

theorem oH:∀ (t:T) (S:ae) (cs:List Value),RdT S cs t->wT t<=1048576->Tri Tryz.prog ul [.agg cs.toArray] [] S (FH S t):=by
 refine T.ind fun k n s ks ih S cs h hw=>?_
 intro w hI
 obtain ⟨kv,rfl,h1,h2,hs,hks⟩:=RdT.iff.1 h
 simp only [T.name,T.kids,T.kind,T.n] at h1 h2 hs hks ⊢
 simp only [wT] at hw
 refine zF.2 ?_
 dsimp only[zF,aL]
 refine bf hI fun b1 w' hI=>?_
 refine aD hI aQ fun b2 w' hI=>?_
 refine aD hI aQ fun b3 w' hI=>?_
 refine ad hI 0 rfl MH av rfl ?_
 refine cJ hI 2 rfl aE av rfl rfl rfl fun w' hI=>?_
 refine ad hI 0 rfl LH av rfl ?_
 refine cJ hI 2 rfl aM av rfl rfl rfl fun w' hI=>?_
 refine ad hI 0 rfl LP aJ rfl ?_
 refine cJ hI 2 rfl aO aJ rfl rfl rfl fun w' hI=>?_
 refine ad hI 0 rfl Li Ft rfl ?_
 refine Run.call0 ou ot hI (Df ih hks (by omega)) fun v' I' S' w'=>?_
 rintro ⟨rfl,L,rfl,hT⟩ _ hI
 have hv:v'.cells=#[v']/\v'.oneCell'=true:=by obtain ⟨a,cap,rfl,_⟩:=hT; exact ⟨rfl,rfl⟩
 refine cJ hI 2 rfl al ah rfl hv.1 hv.2 fun w' hI=>?_
 refine ao hI 2 ac rfl rfl ?_
 refine aq hI 1 rfl ac rfl rfl ?_ fun w' hI=>?_
 ·intro u hu
  have hu':u∈([.int .i64 k,.int .i64 n,.string s,v']:List Value):=hu
  simp at hu'
  rcases hu' with rfl|rfl|rfl|rfl <;> first|rfl|exact hv.2
 refine aU hI 1 ac rfl rfl ?_
 refine ⟨_,_,_,rfl,hI.sub (List.sublist_append_right [_,_,_] (bt L)),Ext.refl _ _ _,rfl,[.int .i64 k,.int .i64 n,.string s,v'],L,rfl,rfl,TrT.iff.2 ⟨v',rfl,h1,h2,hs,hT⟩⟩
theorem sG {ts:List T} {S:ae} {v:Value} (h:RdSl S 4 (RdT S) v ts) (hw:ts.length+wL ts<=1048576):Tri Tryz.prog qx [v] [] S (Pe 4 TrT S ts):=
 Df (fun t _=>oH t) h hw

def wC (c:C):Nat:=wT c.head+c.body.length+wL c.body
def wP:List C->Nat
 | []=>0
 | c::cs=>wC c+wP cs
theorem K5:∀ {cs:List C} {c:C},c∈cs->wC c<=wP cs
 | x::xs,c,h=>by
  simp only [wP]
  rcases List.mem_cons.1 h with rfl|h
  ·omega
  ·have:=K5 h; omega
abbrev RH (S:ae) (c:C):Value->List Item->ae->Prop:=fun v I' S'=>S'=S/\∃ cs L,v=.agg cs.toArray/\I'=bt L/\TrC L cs c
theorem qf {c:C} {S:ae} {cs:List Value} (h:RdC S cs c) (hw:wC c<=1048576):Tri Tryz.prog uT [.agg cs.toArray] [] S (RH S c):=by
 intro w hI
 obtain ⟨hd,ks,rfl,h1,h2⟩:=h
 obtain ⟨kv,rfl,g1,g2,g3,g4⟩:=RdT.iff.1 h1
 unfold wC at hw
 refine sQ.2 ?_
 dsimp only[sQ,aL]
 refine bf hI fun b1 w' hI=>?_
 refine aD hI dF fun b2 w' hI=>?_
 refine aD hI dF fun b3 w' hI=>?_
 refine ai GO ?_
 refine b0 hI 0 [.int .i64 c.head.kind,.int .i64 c.head.n,.string c.head.name,kv] Jh rfl rfl ?_ ?_
 ·intro j v hj
  match j with
  | 0|1|2|3=>exact hj
  | j+4=>simp at hj
 refine Run.call0 p8 qQ hI (oH _ S _ h1 (by omega)) fun v' I' S' w'=>?_
 rintro ⟨rfl,cs1,L1,rfl,rfl,hT1⟩ _ hI
 obtain ⟨kv1,rfl,e1,e2,e3,e4⟩:=TrT.iff.1 hT1
 have hv1:kv1.oneCell'=true:=by obtain ⟨a,cap,rfl,_⟩:=e4; rfl
 refine ai cG ?_
 refine kP hI 2 rfl ac rfl rfl ?_ fun w' hI=>?_
 ·intro u hu
  simp [Value.cells] at hu
  rcases hu with rfl|rfl|rfl|rfl <;> first|rfl|exact hv1
 refine ad hI 0 rfl GV Ft rfl ?_
 refine Run.call0 ou ot hI (sG h2 (by omega)) fun v' I' S' w'=>?_
 rintro ⟨rfl,L2,rfl,hT2⟩ _ hI
 have hv:v'.cells=#[v']/\v'.oneCell'=true:=by obtain ⟨a,cap,rfl,_⟩:=hT2; exact ⟨rfl,rfl⟩
 refine cJ hI 2 rfl bm ah rfl hv.1 hv.2 fun w' hI=>?_
 refine ao hI 2 bo rfl rfl ?_
 refine aq hI 1 rfl bo rfl rfl ?_ fun w' hI=>?_
 ·intro u hu
  have hu':u∈([.int .i64 c.head.kind,.int .i64 c.head.n,.string c.head.name,kv1,v']:List Value):=hu
  simp at hu'
  rcases hu' with rfl|rfl|rfl|rfl|rfl <;> first|rfl|exact hv1|exact hv.2
 refine aU hI 1 bo rfl rfl ?_
 have hI':=hI.sub (List.sublist_append_right [_,_,_] (bt L1++bt L2))
 rw [<- eK] at hI'
 exact ⟨_,_,_,rfl,hI',Ext.refl _ _ _,rfl,[.int .i64 c.head.kind,.int .i64 c.head.n,.string c.head.name,kv1,v'],L1++L2,rfl,rfl,
  [.int .i64 c.head.kind,.int .i64 c.head.n,.string c.head.name,kv1],v',L1,L2,rfl,rfl,hT1,hT2⟩
theorem AJ {p:List C} {S:ae} {v:Value} (h:RdSl S 5 (RdC S) v p) (hw:p.length+wP p<=1048576):Tri Tryz.prog tu [v] [] S (Pe 5 TrC S p):=by
 intro w hI
 refine qt.2 ?_
 dsimp only[qt,aL]
 refine aC h pU ?_
 refine zk hI hY (by omega) (by omega) fun b c w' hc hI=>?_
 refine ⟨fun i w'=>∃ (k:Nat) (c:Array Value) (Ls:List bh),k<=p.length/\i=.int .i64 k/\c.size=p.length * 5/\Part 5 TrC c Ls (p.take k)/\Inv w [] (bt ((b,.cells c aw)::Ls.flatten)) S w',
  fun i _=>p.length - (intOf i).toNat,⟨0,c,[],Nat.zero_le _,rfl,hc,Part.nil _ _ _,hI⟩,?_⟩
 intro t4 _ _ _ _ _ _ _ _ _ _ _ _ _ _ w'
 rintro ⟨k,c,Ls,hk,rfl,hc,hp,hI⟩
 refine aC h pU ?_
 refine bq ?_
 refine aI (fun hki=>?_) (fun hki=>?_)
 ·have hk':k<p.length:=by omega
  have htl:(p.take k).length=k:=by simp; omega
  refine bY hI h pU LR hk' (fun _ _=>RdC.length) fun cs hcs=>?_
  have hwm:=K5 (List.getElem_mem hk')
  refine Run.call0 tq sF hI (qf hcs (by omega)) fun v' I' S' w'=>?_
  rintro ⟨rfl,cs',L,rfl,rfl,hT⟩ _ hI
  refine JL hI 0 (k:=5) (by rfl) bL bo hk' (by omega) (by simp [Value.cells,hT.length]) (by simpa [Value.cells] using hT.one) fun w' hI=>?_
  refine bl (by omega) ?_
  refine ⟨⟨k+1,bx c (k * 5) cs',Ls++[L],hk',rfl,?_,?_,?_⟩,by simp [intOf]; omega⟩
  ·rw [gL _ _ _ (by rw [hT.length]; omega)]; exact hc
  ·have:=hp.snoc hT hT.length (by rw [htl]; omega)
   rw [htl] at this
   rw [List.take_succ_eq_append_getElem hk']
   exact this
  ·simp only [List.flatten_append,List.flatten_cons,List.flatten_nil,List.append_nil]
   simpa [bt,Value.cells] using hI
 ·have:k=p.length:=by omega
  subst this
  rw [List.take_length] at hp
  exact ⟨_,_,_,rfl,hI,Ext.refl _ _ _,rfl,_,rfl,hp.sl (Nat.le_refl _) (by simp only [maxLen]; omega) (by omega)⟩
end
end Go.Proofs.YtfcbhfjomgopbaaGreat
