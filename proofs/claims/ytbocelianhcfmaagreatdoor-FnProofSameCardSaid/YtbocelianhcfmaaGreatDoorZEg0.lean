/- Data that a function has made for itself: trees of blocks that nobody else knows. -/
import Derived.Test.YtbocelianhcfmaaGreatDoorZEgS
import Derived.Test.YtbocelianhcfmaaGreatDoorZEgF
import Derived.Test.YtbocelianhcfmaaGreatDoorZEggz
namespace Go.Proofs.YtbocelianhcfmaaGreatDoor
section
open Go Go.RowKit
attribute [local irreducible] Run CondV ar aI

abbrev aV:=List (Nat × Obj)
def bB (L:aV):List Item:=L.map fun p=>.blk p.1 p.2
theorem fj (L M:aV):bB (L++M)=bB L++bB M:=by simp [bB]
def Ins (S:ae) (L:aV):Prop:=∀ p∈L,S p.1=some p.2
theorem Ins.mono {S S':ae} {L:aV} (h:Ins S L) (hs:Sle S S'):Ins S' L:=fun p hp=>hs _ _ (h p hp)
theorem Ins.left {S:ae} {L M:aV} (h:Ins S (L++M)):Ins S L:=fun p hp=>h p (List.mem_append_left _ hp)
theorem Ins.right {S:ae} {L M:aV} (h:Ins S (L++M)):Ins S M:=fun p hp=>h p (List.mem_append_right _ hp)
theorem ie {L:aV} {b:Nat}:b∈bz (bB L)↔∃ p∈L,p.1=b:=by
 simp only [bz,bB,List.mem_flatMap,List.mem_map]
 constructor
 ·rintro ⟨it,⟨p,hp,rfl⟩,hb⟩
  simp only [Item.foot,List.mem_singleton] at hb
  exact ⟨p,hp,hb.symm⟩
 ·rintro ⟨p,hp,rfl⟩
  exact ⟨_,⟨p,hp,rfl⟩,by simp [Item.foot]⟩

theorem Inv.publishAll {w0 w:World} {X:List Nat} {A:List Item}:∀ (L:aV) {S:ae},Inv w0 X (A++bB L) S w->
  ∃ S',Inv w0 X A S' w/\Sle S S'/\Ins S' L/\∀ b o,S' b=some o->S b=some o ∨ b∈bz (bB L)
 | [],S,h=>⟨S,by simpa [bB] using h,Sle.refl S,by intro p hp; simp at hp,fun b o hb=>.inl hb⟩
 | p::L,S,h=>by
  have hi:(A++bB (p::L))[A.length]?=some (.blk p.1 p.2):=by simp [bB]
  obtain ⟨h1,h2⟩:=h.publish hi
  have he:(A++bB (p::L)).eraseIdx A.length=A++bB L:=by simp [bB,List.eraseIdx_append_of_length_le]
  rw [he] at h1
  obtain ⟨S',h3,h4,h5,h6⟩:=publishAll L h1
  refine ⟨S',h3,h2.trans h4,fun q hq=>?_,fun b o hb=>?_⟩
  ·rcases List.mem_cons.1 hq with rfl|hq
   ·exact h4 _ _ (by simp [nD])
   ·exact h5 q hq
  ·rcases h6 b o hb with h7|h7
   ·simp only [nD] at h7
    split at h7
    ·rename_i e; right; rw [ie]; exact ⟨p,List.mem_cons_self ..,e.symm⟩
    ·exact .inl h7
   ·right
    obtain ⟨q,hq,e⟩:=ie.1 h7
    exact ie.2 ⟨q,List.mem_cons_of_mem _ hq,e⟩

def TrSl {α:Type} (k:Nat) (R:aV->List Value->α->Prop) (L:aV) (v:Value) (xs:List α):Prop:=
 ∃ a cap,v=.slice a xs.length cap/\xs.length<=cap/\cap<=maxLen/\
  ((xs=[]/\L=[]) ∨ ∃ b c E,∃ Ls:List aV,a=some ⟨b,0,none⟩/\L=(b,.cells c E)::Ls.flatten/\Ls.length=xs.length/\cap * k<=c.size/\
   ∀ i (h:i<xs.length) (h':i<Ls.length),R Ls[i] (aL c (i * k) k) xs[i])
inductive TrT:aV->List Value->T->Prop
 | nil {k n:Int} {s:ByteArray} {a:Option Addr} {cap:Nat} (hk:inI k) (hn:inI n) (hs:s.size<=maxLen) (hc:cap<=maxLen) :
   TrT [] [.int .i64 k,.int .i64 n,.string s,.slice a 0 cap] (.mk k n s [])
 | cons {k n:Int} {s:ByteArray} {kids:List T} {b cap:Nat} {c:Array Value} {E:TypeId} {Ls:List aV} (hk:inI k) (hn:inI n) (hs:s.size<=maxLen) (hl:kids.length<=cap) (hc:cap<=maxLen)
   (hLs:Ls.length=kids.length) (hsz:cap * 4<=c.size) (h:∀ i (h:i<kids.length) (h':i<Ls.length),TrT Ls[i] (aL c (i * 4) 4) kids[i]) :
   TrT ((b,.cells c E)::Ls.flatten) [.int .i64 k,.int .i64 n,.string s,.slice (some ⟨b,0,none⟩) kids.length cap] (.mk k n s kids)
theorem TrT.iff {L:aV} {cs:List Value} {t:T}:TrT L cs t ↔
  ∃ ks,cs=[.int .i64 t.kind,.int .i64 t.n,.string t.name,ks]/\inI t.kind/\inI t.n/\t.name.size<=maxLen/\TrSl 4 TrT L ks t.kids:=by
 constructor
 ·intro h
  cases h with
  | nil hk hn hs hc=>exact ⟨_,rfl,hk,hn,hs,_,_,rfl,Nat.zero_le _,hc,.inl ⟨rfl,rfl⟩⟩
  | cons hk hn hs hl hc hLs hsz h=>exact ⟨_,rfl,hk,hn,hs,_,_,rfl,hl,hc,.inr ⟨_,_,_,_,rfl,rfl,hLs,hsz,h⟩⟩
 ·obtain ⟨k,n,s,kids⟩:=t
  rintro ⟨ks,rfl,hk,hn,hs,a,cap,rfl,hl,hc,h⟩
  rcases h with ⟨h,rfl⟩|⟨b,c,E,Ls,rfl,rfl,hLs,hsz,h⟩
  ·simp only [T.kids] at h
   subst h
   exact TrT.nil hk hn hs hc
  ·exact TrT.cons hk hn hs hl hc hLs hsz h
theorem TrT.length {L:aV} {cs:List Value} {t:T} (h:TrT L cs t):cs.length=4:=by
 obtain ⟨ks,rfl,_⟩:=TrT.iff.1 h; rfl
theorem TrT.one {L:aV} {cs:List Value} {t:T} (h:TrT L cs t):∀ u∈cs,u.oneCell'=true:=by
 obtain ⟨ks,rfl,_,_,_,a,cap,rfl,_⟩:=TrT.iff.1 h
 intro u hu
 simp at hu
 rcases hu with rfl|rfl|rfl|rfl <;> rfl
theorem RdT.one {S:ae} {cs:List Value} {t:T} (h:RdT S cs t):∀ u∈cs,u.oneCell'=true:=by
 obtain ⟨ks,rfl,_,_,_,a,cap,rfl,_⟩:=RdT.iff.1 h
 intro u hu
 simp at hu
 rcases hu with rfl|rfl|rfl|rfl <;> rfl
theorem xM {S:ae} {Ls:List aV} (h:Ins S Ls.flatten) {i:Nat} (hi:i<Ls.length):Ins S Ls[i]:=
 fun p hp=>h p (List.mem_flatten.2 ⟨_,List.getElem_mem hi,hp⟩)
theorem TrSl.rd {α:Type} {S:ae} {k:Nat} {R:aV->List Value->α->Prop} {R':List Value->α->Prop} {L:aV} {v:Value} {xs:List α} (h:TrSl k R L v xs) (hi:Ins S L)
  (hR:∀ L cs x,Ins S L->R L cs x->R' cs x):RdSl S k R' v xs:=by
 obtain ⟨a,cap,rfl,hl,hc,h⟩:=h
 refine ⟨a,cap,rfl,hl,hc,?_⟩
 rcases h with ⟨h,_⟩|⟨b,c,E,Ls,rfl,rfl,hLs,hsz,h⟩
 ·exact .inl h
 ·refine .inr ⟨b,0,c,E,(0,0),rfl,hi _ (List.mem_cons_self ..),fun i h1=>?_⟩
  rw [Nat.zero_add]
  exact hR _ _ _ (xM (fun p hp=>hi p (List.mem_cons_of_mem _ hp)) (by omega)) (h i h1 (by omega))
theorem TrT.rd {S:ae} {L:aV} {cs:List Value} {t:T} (h:TrT L cs t) (hi:Ins S L):RdT S cs t:=by
 induction h with
 | nil hk hn hs hc=>exact RdT.nil hk hn hs hc
 | cons hk hn hs hl hc hLs hsz h ih=>
  refine RdT.cons hk hn hs hl hc (hi _ (List.mem_cons_self ..)) (o:=0) fun i h1=>?_
  rw [Nat.zero_add]
  exact ih i h1 (by omega) (xM (fun p hp=>hi p (List.mem_cons_of_mem _ hp)) (by omega))
def TrC (L:aV) (cs:List Value) (c:C):Prop:=∃ hd ks L1 L2,cs=hd++[ks]/\L=L1++L2/\TrT L1 hd c.head/\TrSl 4 TrT L2 ks c.body
theorem TrC.rd {S:ae} {L:aV} {cs:List Value} {c:C} (h:TrC L cs c) (hi:Ins S L):RdC S cs c:=by
 obtain ⟨hd,ks,L1,L2,rfl,rfl,h1,h2⟩:=h
 exact ⟨hd,ks,rfl,h1.rd hi.left,h2.rd hi.right fun _ _ _ hi h=>h.rd hi⟩
theorem TrC.length {L:aV} {cs:List Value} {c:C} (h:TrC L cs c):cs.length=5:=by
 obtain ⟨hd,ks,L1,L2,rfl,rfl,h1,h2⟩:=h; simp [h1.length]
theorem TrC.one {L:aV} {cs:List Value} {c:C} (h:TrC L cs c):∀ u∈cs,u.oneCell'=true:=by
 obtain ⟨hd,ks,L1,L2,rfl,rfl,h1,a,cap,rfl,_⟩:=h
 intro u hu
 rcases List.mem_append.1 hu with hu|hu
 ·exact h1.one u hu
 ·simp at hu; subst hu; rfl

section
variable {P:Program} {w w0:World} {X:List Nat} {L:List Item} {S:ae} {K:Value->World->Prop}
theorem Run.call0 {f:FuncId} {fn:Func} {args:List Value} {Post:Value->List Item->ae->Prop}
  (hf:P.funcs[f]?=some fn) (hn:(fn.name == "runtime.NumGoroutine" || fn.body.isNone)=false) (h:Inv w0 X L S w) (hc:Tri P f args [] S Post)
  (hk:∀ v I' S' w',Post v I' S'->Sle S S'->Inv w0 X (L++I') S' w'->K v w'):Run P (ed (.func (.func f) #[] #[]) args) w K:=
 Run.call (A:=L) (I:=[]) hf hn (by simpa using h) hc hk
theorem cP {T U ty ty' E:TypeId} {f d b:Nat} {c:Array Value} {v:Value} (hI:Inv w0 X L S w) (i:Nat) (hi:L[i]?=some (.blk b (.cells c E))) (hf:bG P T f=some d) (hU:jc P U=true) (hlt:Nat.blt d c.size=true)
  (hv:v.cells=#[v]) (h1:v.oneCell'=true)
  {K:Value->Value->World->Prop} (hk:∀ w',Inv w0 X (L.set i (.blk b (.cells (c.setIfInBounds d v) E))) S w'->K (.pointer (some ⟨b,d,none⟩)) undef w') :
  Run P (sOp (.fieldAddr T (.const (.pointer (some ⟨b,0,none⟩))) f) ty) w fun q w'=>Run P (sOp (.store U (.const q) (.const v)) ty') w' (K q):=by
 have hlt:d<c.size:=by simpa [Nat.blt_eq] using hlt
 refine ao hf ?_
 rw [Nat.zero_add]
 refine dB hI i (n:=1) (by rw [hv]; rfl) (by rw [hU]; rfl) hi (by omega) (by rw [hv]; simpa using h1) fun w' hI'=>hk w' ?_
 have:bk c d v.cells.toList=c.setIfInBounds d v:=by
  rw [hv]
  apply Array.toList_inj.1
  simp only [bk,Array.toList_setIfInBounds]
  have hl:d<c.toList.length:=by simpa using hlt
  rw [List.set_eq_take_append_cons_drop,if_pos hl]
  simp
 rw [this] at hI'
 exact hI'
theorem s7 {T ty E:TypeId} {o b n:Nat} {c:Array Value} {v:Value} (hI:Inv w0 X L S w) (i:Nat) (hi:L[i]?=some (.blk b (.cells c E))) (hT:jV P T=some n) (hn:v.cells.size=n) (hfit:Nat.ble (o+n) c.size=true)
  (h1:∀ u∈v.cells.toList,u.oneCell'=true) (hk:∀ w',Inv w0 X (L.set i (.blk b (.cells (bk c o v.cells.toList) E))) S w'->K undef w') :
  Run P (sOp (.store T (.const (.pointer (some ⟨b,o,none⟩))) (.const v)) ty) w K:=
 dB hI i hn (by rw [hT]; simp) hi (Nat.le_of_ble_eq_true hfit) h1 hk
theorem aj {T ty E:TypeId} {b n:Nat} {c cs:Array Value} (hI:Inv w0 X L S w) (i:Nat) (hi:L[i]?=some (.blk b (.cells c E))) (hT:jV P T=some n) (hn:cs.size=n) (hc:c.size=n)
  (h1:∀ u∈cs.toList,u.oneCell'=true) (hk:∀ w',Inv w0 X (L.set i (.blk b (.cells cs E))) S w'->K undef w') :
  Run P (sOp (.store T (.const (.pointer (some ⟨b,0,none⟩))) (.const (.agg cs))) ty) w K:=by
 refine dB hI i (v:=.agg cs) (n:=n) hn (by rw [hT]; simp) hi (by omega) h1 fun w' hI'=>hk w' ?_
 have:bk c 0 (Value.agg cs).cells.toList=cs:=by
  rw [tq _ _ (by simp [Value.cells,hn,hc])]
  simp [Value.cells]
 rw [this] at hI'
 exact hI'
theorem MB {T U ty ty' E E':TypeId} {k b len cap j:Nat} {c:Array Value} {v:Value} (hI:Inv w0 X L S w) (i:Nat) (hi:L[i]?=some (.blk b (.cells c E'))) (hu:ce P T=some (E,k)) (hU:jV P U=some k)
  (hj:j<len) (hfit:(j+1) * k<=c.size) (hv:v.cells.size=k) (h1:∀ u∈v.cells.toList,u.oneCell'=true)
  {K:Value->Value->World->Prop} (hk:∀ w',Inv w0 X (L.set i (.blk b (.cells (bk c (j * k) v.cells.toList) E'))) S w'->K (.pointer (some ⟨b,j * k,none⟩)) undef w') :
  Run P (sOp (.indexAddr T (.const (.slice (some ⟨b,0,none⟩) len cap)) (.const (.int .i64 j))) ty) w fun p w'=>Run P (sOp (.store U (.const p) (.const v)) ty') w' (K p):=by
 refine ay hu hj ?_
 rw [Nat.zero_add]
 exact dB hI i (n:=k) hv (by rw [hU]; simp) hi (by rw [Nat.add_mul,Nat.one_mul] at hfit; omega) h1 hk
end

theorem TrSl.nil {α:Type} {k:Nat} {R:aV->List Value->α->Prop} {a:Option Addr} {cap:Nat} (hc:cap<=maxLen):TrSl k R [] (.slice a 0 cap) ([]:List α):=
 ⟨a,cap,rfl,Nat.zero_le _,hc,.inl ⟨rfl,rfl⟩⟩
def Part {α:Type} (k:Nat) (R:aV->List Value->α->Prop) (c:Array Value) (Ls:List aV) (xs:List α):Prop:=
 Ls.length=xs.length/\∀ i (h:i<xs.length) (h':i<Ls.length),R Ls[i] (aL c (i * k) k) xs[i]
theorem Part.nil {α:Type} (k:Nat) (R:aV->List Value->α->Prop) (c:Array Value):Part k R c [] ([]:List α):=⟨rfl,fun i h=>by simp at h⟩
theorem Part.snoc {α:Type} {k:Nat} {R:aV->List Value->α->Prop} {c:Array Value} {Ls:List aV} {xs:List α} (h:Part k R c Ls xs) {cs:List Value} {L:aV} {x:α} (hx:R L cs x) (hl:cs.length=k)
  (hfit:(xs.length+1) * k<=c.size):Part k R (bk c (xs.length * k) cs) (Ls++[L]) (xs++[x]):=by
 have hf:xs.length * k+cs.length<=c.size:=by rw [hl]; rw [Nat.add_mul,Nat.one_mul] at hfit; exact hfit
 refine ⟨by simp [h.1],fun i h1 h2=>?_⟩
 by_cases hi:i<xs.length
 ·have h3:i<Ls.length:=by rw [h.1]; exact hi
  rw [List.getElem_append_left h3,List.getElem_append_left hi,gq hf]
  ·exact h.2 i hi h3
  ·left
   have:(i+1) * k<=xs.length * k:=Nat.mul_le_mul_right _ hi
   rw [Nat.add_mul,Nat.one_mul] at this
   exact this
 ·have hi':i=xs.length:=by simp at h1; omega
  subst hi'
  have h3:xs.length=Ls.length:=h.1.symm
  rw [List.getElem_append_right (by omega),List.getElem_append_right (by omega)]
  simp only [h3,Nat.sub_self,List.getElem_cons_zero]
  rw [<- h3,<- hl,ft (by rw [hl] at hf ⊢; exact hf)]
  exact hx
theorem Part.sl {α:Type} {k:Nat} {R:aV->List Value->α->Prop} {b:Nat} {c:Array Value} {E:TypeId} {Ls:List aV} {xs:List α} {cap:Nat} (h:Part k R c Ls xs) (h1:xs.length<=cap) (h2:cap<=maxLen) (h3:cap * k<=c.size) :
  TrSl k R ((b,.cells c E)::Ls.flatten) (.slice (some ⟨b,0,none⟩) xs.length cap) xs:=
 ⟨_,cap,rfl,h1,h2,.inr ⟨b,c,E,Ls,rfl,rfl,h.1,h3,h.2⟩⟩
end
section
open Go Go.RowKit
section
variable {P:Program} {w:World} {K:Value->World->Prop} {ty:TypeId}
attribute [local irreducible] Run CondV ar aI
theorem gH {a:Bool} {v:Value} {A:Prop} (ht:a=true->A) (hf:a=false->K (.bool false) w):ar (.bool a) true A (Run P (sOp (.pick (.const (.bool a)) (.const v) (.const (.bool false))) ty) w K):=
 H2 ht fun h=>by
  have h':a=false:=by simpa using h
  refine qZ ?_
  rw [h']
  exact hf h'
theorem fm {a:Bool} {v u:Value} (ha:a=true) (hk:K v w):Run P (sOp (.pick (.const (.bool a)) (.const v) (.const u)) ty) w K:=by
 refine qZ ?_
 rw [ha]
 exact hk
theorem mw {v:Value} {A:Prop} (hk:K (.bool false) w):ar (.bool false) true A (Run P (sOp (.pick (.const (.bool false)) (.const v) (.const (.bool false))) ty) w K):=
 gH (fun h=>by cases h) fun _=>hk
theorem rU {a:Bool} {v:Value} {A:Prop} (ht:a=true->K (.bool true) w) (hf:a=false->A):ar (.bool a) false A (Run P (sOp (.pick (.const (.bool a)) (.const (.bool true)) (.const v)) ty) w K):=
 H2 hf fun h=>by
  have h':a=true:=by simpa using h
  refine qZ ?_
  rw [h']
  exact ht h'
theorem lz {a:Bool} {v u:Value} (ha:a=false) (hk:K v w):Run P (sOp (.pick (.const (.bool a)) (.const u) (.const v)) ty) w K:=by
 refine qZ ?_
 rw [ha]
 exact hk
theorem PN {v:Value} {A:Prop} (hk:K (.bool true) w):ar (.bool true) false A (Run P (sOp (.pick (.const (.bool true)) (.const (.bool true)) (.const v)) ty) w K):=
 rU (fun _=>hk) fun h=>by cases h
end

def iQ (cs:List Value) (s:ByteArray):Prop:=cs=[.string s]
def gz (cs:List Value) (n:Int):Prop:=cs=[.int .i64 n]
section
variable {P:Program} {w w0:World} {X:List Nat} {L:List Item} {S:ae} {K:Value->World->Prop}
attribute [local irreducible] Run CondV ar aI
theorem od (h:Inv w0 X L S w) {s:Sem Next} {v:Nat->Value} {o:Obj} (hr:s.run P w=.ok (.value (v w.heap.size)) { w with heap:=w.heap.push o })
  (hk:∀ b w',Inv w0 X (L++[.blk b o]) S w'->K (v b) w'):Run P s w K:=Run.of hr (hk _ _ (h.alloc o))
theorem Inv.publishLast {b:Nat} {o:Obj} (h:Inv w0 X (L++[.blk b o]) S w):Inv w0 X L (nD S b o) w/\Sle S (nD S b o):=by
 have hi:(L++[Item.blk b o])[L.length]?=some (.blk b o):=by simp
 have:=h.publish hi
 rwa [show (L++[Item.blk b o]).eraseIdx L.length=L by simp [List.eraseIdx_append_of_length_le]] at this
theorem eX {α:Type} {T U ty ty' E:TypeId} {R:List Value->α->Prop} {v u:Value} {xs:List α} (hI:Inv w0 X L S w) (h:RdSl S 1 R v xs) (hu:ce P T=some (E,1)) (hU:jc P U=true)
  {i:Nat} (hi:i<xs.length) (hR:∀ cs,R cs xs[i]->cs=[u]) {K:Value->Value->World->Prop} (hk:K (elP v (i * 1)) u w) :
  Run P (sOp (.indexAddr T (.const v) (.const (.int .i64 i))) ty) w fun p w'=>Run P (sOp (.load U (.const p)) ty') w' (K p):=by
 obtain ⟨b,o,cap,c,E',fz,rfl,hS,hr⟩:=h.at_ hi
 refine ay hu hi ?_
 refine dd hU ?_ hk
 rw [hI.cellS hS]
 exact aD (hR _ hr) 0 u rfl
end
theorem RdSl.ofCells {α:Type} {S:ae} {R:List Value->α->Prop} {b n:Nat} {c:Array Value} {E:TypeId} {fz:Nat × Nat} {xs:List α} (hS:S b=some (.cells c E fz)) (hn:xs.length=n) (hm:n<=maxLen)
  (h:∀ i (h:i<xs.length),R (aL c i 1) xs[i]):RdSl S 1 R (.slice (some ⟨b,0,none⟩) n n) xs:=by
 subst hn
 exact ⟨_,_,rfl,Nat.le_refl _,hm,.inr ⟨b,0,c,E,fz,rfl,hS,fun i hi=>by rw [Nat.zero_add,Nat.mul_one]; exact h i hi⟩⟩
end
section
open Go

def signs:List ByteArray:=[⟨#[43]⟩,⟨#[45]⟩,⟨#[42]⟩,⟨#[47,47]⟩,⟨#[61]⟩,⟨#[92,61]⟩,⟨#[61,61]⟩,⟨#[60]⟩,⟨#[62]⟩,⟨#[61,60]⟩,⟨#[62,61]⟩,⟨#[61,58,61]⟩,⟨#[46]⟩,⟨#[91,93]⟩,⟨#[33]⟩]
def mO (b:UInt8):Bool:=decide (97<=b.toNat) && decide (b.toNat<=122)
def lL (s:ByteArray):Bool:=s.data.toList.all mO
def iw (s:ByteArray):Bool:=lL s && (decide (1<=s.size) && decide (s.size<=6))
def gt (s:ByteArray):Bool:=iw s || signs.any fun x=>decide (x=s)
def emptyB:ByteArray:=⟨#[]⟩
def dC (t:T):Bool:=
 if t.kind=1 then decide (0<=t.n) && (decide (t.n<=25) && (decide (t.name=emptyB) && decide (t.kids.length=0)))
 else if t.kind=2 then decide (-999<=t.n) && (decide (t.n<=999) && (decide (t.name=emptyB) && decide (t.kids.length=0)))
 else if t.kind=3 then decide (t.n=0) && (gt t.name && decide (t.kids.length<=4))
 else false
mutual
def ei:T->Int->Bool
 | .mk k n s ks,d=>if d<1 then false else dC (.mk k n s ks) && eV ks (d - 1)
def eV:List T->Int->Bool
 | [],_=>true
 | t::ts,d=>ei t d && eV ts d
end
mutual
def dl:T->Int
 | .mk _ _ _ ks=>1+cL ks
def cL:List T->Int
 | []=>0
 | t::ts=>dl t+cL ts
end
mutual
def iG:T->Int->Int
 | .mk _ _ _ ks,most=>fo ks 1 most
def fo:List T->Int->Int->Int
 | [],n,_=>n
 | t::ts,n,most=>if n<=most then fo ts (n+iG t (most - n)) most else n
end
def cE (t:T):Bool:=ei t 30 && decide (dl t<=120)

mutual
theorem fG:∀ t:T,1<=dl t
 | .mk _ _ _ ks=>by simp only [dl]; have:=dS ks; omega
theorem dS:∀ ts:List T,0<=cL ts
 | []=>by simp [cL]
 | t::ts=>by simp only [cL]; have:=fG t; have:=dS ts; omega
end
mutual
theorem uX:∀ (t:T) (most:Int),0<=most->(dl t<=most->iG t most=dl t)/\(most<dl t->most<iG t most/\iG t most<=dl t)
 | .mk _ _ _ ks,most,h=>by
  simp only [dl,iG]
  have:=BE ks 1 most h (by omega)
  exact this
theorem BE:∀ (ts:List T) (n most:Int),0<=most->1<=n->(n+cL ts<=most->fo ts n most=n+cL ts)/\(most<n+cL ts->most<fo ts n most/\fo ts n most<=n+cL ts)
 | [],n,most,h,h1=>by
  simp only [cL,fo]
  exact ⟨fun _=>by omega,fun _=>by omega⟩
 | t::ts,n,most,h,h1=>by
  simp only [cL,fo]
  have hp:=fG t
  have hl:=dS ts
  by_cases hn:n<=most
  ·rw [if_pos hn]
   have ht:=uX t (most - n) (by omega)
   by_cases hc:dl t<=most - n
   ·rw [ht.1 hc]
    have hr:=BE ts (n+dl t) most h (by omega)
    exact ⟨fun h2=>by rw [hr.1 (by omega)]; omega,fun h2=>by have:=hr.2 (by omega); omega⟩
   ·have h3:=ht.2 (by omega)
    have h4:fo ts (n+iG t (most - n)) most=n+iG t (most - n):=by
     cases ts with
     | nil=>rfl
     | cons u us=>rw [fo,if_neg (by omega)]
    rw [h4]
    exact ⟨fun h2=>by omega,fun h2=>by omega⟩
  ·rw [if_neg hn]
   exact ⟨fun h2=>by omega,fun h2=>by omega⟩
end
theorem KO (t:T):decide (iG t 120<=120)=decide (dl t<=120):=by
 have h:=uX t 120 (by omega)
 by_cases hc:dl t<=120
 ·rw [h.1 hc]
 ·have:=h.2 (by omega)
  rw [decide_eq_false (by omega),decide_eq_false hc]

mutual
def eB:T->Int->Int->Bool × Int
 | .mk k n s ks,deep,c=>
  if 120<c+1 ∨ 30<deep then (false,c+1)
  else if k=1 ∨ k=2 then (dC (.mk k n s ks),c+1)
  else if k=3 then (if dC (.mk k n s ks) then jo ks (deep+1) (c+1) else (false,c+1))
  else (false,c+1)
def jo:List T->Int->Int->Bool × Int
 | [],_,c=>(true,c)
 | t::ts,deep,c=>if (eB t deep c).1 then jo ts deep (eB t deep c).2 else (false,(eB t deep c).2)
end
theorem MC {k n:Int} {s:ByteArray} {ks:List T} (h:dC (.mk k n s ks)=true) (hk:k=1 ∨ k=2):ks=[]:=by
 unfold dC at h
 simp only [T.kind,T.n,T.name,T.kids] at h
 rcases hk with rfl|rfl <;> simp at h <;> exact h.2.2.2
theorem MK {k n:Int} {s:ByteArray} {ks:List T} (h:dC (.mk k n s ks)=true):k=1 ∨ k=2 ∨ k=3:=by
 unfold dC at h
 simp only [T.kind,T.n,T.name,T.kids] at h
 by_cases h1:k=1
 ·exact .inl h1
 ·by_cases h2:k=2
  ·exact .inr (.inl h2)
  ·by_cases h3:k=3
   ·exact .inr (.inr h3)
   ·simp [h1,h2,h3] at h
mutual
theorem ya:∀ (t:T) (deep c:Int),(eB t deep c).1=(ei t (31 - deep) && decide (c+dl t<=120))/\((eB t deep c).1=true->(eB t deep c).2=c+dl t)
 | .mk k n s ks,deep,c=>by
  have hl:=dS ks
  rw [show dl (T.mk k n s ks)=1+cL ks from rfl]
  simp only [eB,ei]
  by_cases h1:120<c+1 ∨ 30<deep
  ·rw [if_pos h1]
   refine ⟨?_,fun h=>by cases h⟩
   rcases h1 with h1|h1
   ·rw [decide_eq_false (show ¬ (c+(1+cL ks)<=120) by omega),Bool.and_false]
   ·rw [if_pos (show 31 - deep<1 by omega)]; rfl
  ·rw [if_neg h1,if_neg (show ¬ (31 - deep<1) by omega)]
   by_cases h2:k=1 ∨ k=2
   ·rw [if_pos h2]
    cases ho:dC (.mk k n s ks) with
    | false=>exact ⟨rfl,fun h=>by cases h⟩
    | true=>
     have:=MC ho h2
     subst this
     rw [show cL []=0 from rfl]
     simp only [eV,Bool.true_and]
     exact ⟨by rw [decide_eq_true (show c+(1+0)<=120 by omega)],fun _=>by omega⟩
   ·rw [if_neg h2]
    by_cases h3:k=3
    ·rw [if_pos h3]
     cases ho:dC (.mk k n s ks) with
     | false=>exact ⟨rfl,fun h=>by cases h⟩
     | true=>
      simp only [if_true,Bool.true_and]
      have:=Ef ks (deep+1) (c+1)
      rw [show 31 - (deep+1)=31 - deep - 1 by omega] at this
      rw [show c+(1+cL ks)=c+1+cL ks by omega]
      refine ⟨?_,this.2⟩
      rw [this.1]
      cases ks with
      | nil=>rw [show cL []=0 from rfl,decide_eq_true (show c+1+0<=120 by omega)]; rfl
      | cons t ts=>simp
    ·rw [if_neg h3]
     have ho:dC (.mk k n s ks)=false:=by
      rw [<- Bool.not_eq_true]
      intro h
      rcases MK h with e|e|e
      ·exact h2 (.inl e)
      ·exact h2 (.inr e)
      ·exact h3 e
     rw [ho]
     exact ⟨rfl,fun h=>by cases h⟩
theorem Ef:∀ (ts:List T) (deep c:Int),(jo ts deep c).1=(eV ts (31 - deep) && (ts.isEmpty || decide (c+cL ts<=120)))/\((jo ts deep c).1=true->(jo ts deep c).2=c+cL ts)
 | [],deep,c=>by simp [jo,eV,cL]
 | t::ts,deep,c=>by
  have ht:=ya t deep c
  have hp:=dS ts
  rw [show cL (t::ts)=dl t+cL ts from rfl]
  simp only [jo,eV,List.isEmpty_cons,Bool.false_or]
  cases h1:(eB t deep c).1 with
  | false=>
   rw [h1] at ht
   have h2:=ht.1
   refine ⟨?_,fun h=>by cases h⟩
   simp only [Bool.false_eq_true,if_false]
   cases hs:ei t (31 - deep) with
   | false=>rfl
   | true=>
    rw [hs,Bool.true_and] at h2
    have:¬ (c+dl t<=120):=of_decide_eq_false h2.symm
    rw [decide_eq_false (show ¬ (c+(dl t+cL ts)<=120) by omega),Bool.and_false]
  | true=>
   rw [h1] at ht
   have h2:=ht.1
   have h3:=ht.2 rfl
   simp only [if_true]
   rw [h3]
   have hs:ei t (31 - deep)=true/\c+dl t<=120:=by
    have:=h2.symm
    simpa using this
   have hl:=Ef ts deep (c+dl t)
   rw [show c+(dl t+cL ts)=c+dl t+cL ts by omega]
   refine ⟨?_,hl.2⟩
   rw [hl.1,hs.1,Bool.true_and]
   cases ts with
   | nil=>rw [show cL []=0 from rfl,decide_eq_true (show c+dl t+0<=120 by omega)]; rfl
   | cons u us=>simp
end
theorem HD (t:T):(eB t 1 0).1=cE t:=by
 rw [(ya t 1 0).1,cE]
 simp
end
section
open Go Go.RowKit
attribute [local irreducible] Run CondV ar aI

mutual
def wT:T->Nat
 | .mk _ _ s ks=>s.size+ks.length+wL ks
def wL:List T->Nat
 | []=>0
 | t::ts=>wT t+wL ts
end
theorem kM:∀ {ts:List T} {t:T},t∈ts->wT t<=wL ts
 | x::xs,t,h=>by
  simp only [wL]
  rcases List.mem_cons.1 h with rfl|h
  ·omega
  ·have:=kM h; omega

abbrev OC {α:Type} (k:Nat) (R:aV->List Value->α->Prop) (S:ae) (xs:List α):Value->List Item->ae->Prop:=
 fun v I' S'=>S'=S/\∃ L,I'=bB L/\TrSl k R L v xs
abbrev BU (S:ae) (t:T):Value->List Item->ae->Prop:=fun v I' S'=>S'=S/\∃ cs L,v=.agg cs.toArray/\I'=bB L/\TrT L cs t

theorem yc {ts:List T} (ih:∀ t∈ts,∀ (S:ae) (cs:List Value),RdT S cs t->wT t<=1048576->Tri Tryz.prog qH [.agg cs.toArray] [] S (BU S t))
  {S:ae} {v:Value} (h:RdSl S 4 (RdT S) v ts) (hw:ts.length+wL ts<=1048576):Tri Tryz.prog ow [v] [] S (OC 4 TrT S ts):=by
 intro w hI
 refine ti.2 ?_
 dsimp only[ti,aE]
 refine aK h vy ?_
 refine E6 hI bj (by omega) (by omega) fun b c w' hc hI=>?_
 refine ⟨fun i w'=>∃ (k:Nat) (c:Array Value) (Ls:List aV),k<=ts.length/\i=.int .i64 k/\c.size=ts.length * 4/\Part 4 TrT c Ls (ts.take k)/\Inv w [] (bB ((b,.cells c ab)::Ls.flatten)) S w',
  fun i _=>ts.length - (intOf i).toNat,⟨0,c,[],Nat.zero_le _,rfl,hc,Part.nil _ _ _,hI⟩,?_⟩
 intro t4 _ _ _ _ _ _ _ _ _ _ _ _ _ _ w'
 rintro ⟨k,c,Ls,hk,rfl,hc,hp,hI⟩
 refine aK h vy ?_
 refine bD ?_
 refine aN (fun hki=>?_) (fun hki=>?_)
 ·have hk':k<ts.length:=by omega
  have htl:(ts.take k).length=k:=by simp; omega
  refine bP hI h vy K7 hk' (fun _ _=>RdT.length) fun cs hcs=>?_
  have hm:=List.getElem_mem hk'
  have hwm:=kM hm
  refine Run.call0 xj wR hI (ih _ hm S cs hcs (by omega)) fun v' I' S' w'=>?_
  rintro ⟨rfl,cs',L,rfl,rfl,hT⟩ _ hI
  refine MB hI 0 (k:=4) (by rfl) ah ac hk' (by omega) (by simp [Value.cells,hT.length]) (by simpa [Value.cells] using hT.one) fun w' hI=>?_
  refine bm (by omega) ?_
  refine ⟨⟨k+1,bk c (k * 4) cs',Ls++[L],hk',rfl,?_,?_,?_⟩,by simp [intOf]; omega⟩
  ·rw [ic _ _ _ (by rw [hT.length]; omega)]; exact hc
  ·have:=hp.snoc hT hT.length (by rw [htl]; omega)
   rw [htl] at this
   rw [List.take_succ_eq_append_getElem hk']
   exact this
  ·simp only [List.flatten_append,List.flatten_cons,List.flatten_nil,List.append_nil]
   simpa [bB,Value.cells] using hI
 ·have:k=ts.length:=by omega
  subst this
  rw [List.take_length] at hp
  exact ⟨_,_,_,rfl,hI,Ext.refl _ _ _,rfl,_,rfl,hp.sl (Nat.le_refl _) (by simp only [maxLen]; omega) (by omega)⟩

theorem sX:∀ (t:T) (S:ae) (cs:List Value),RdT S cs t->wT t<=1048576->Tri Tryz.prog qH [.agg cs.toArray] [] S (BU S t):=by
 refine T.ind fun k n s ks ih S cs h hw=>?_
 intro w hI
 obtain ⟨kv,rfl,h1,h2,hs,hks⟩:=RdT.iff.1 h
 simp only [T.name,T.kids,T.kind,T.n] at h1 h2 hs hks ⊢
 simp only [wT] at hw
 refine wb.2 ?_
 dsimp only[wb,aE]
 refine be hI fun b1 w' hI=>?_
 refine aA hI aU fun b2 w' hI=>?_
 refine aA hI aU fun b3 w' hI=>?_
 refine ad hI 0 rfl IY aw rfl ?_
 refine cP hI 2 rfl aM aw rfl rfl rfl fun w' hI=>?_
 refine ad hI 0 rfl HO aw rfl ?_
 refine cP hI 2 rfl aR aw rfl rfl rfl fun w' hI=>?_
 refine ad hI 0 rfl HQ aC rfl ?_
 refine cP hI 2 rfl aH aC rfl rfl rfl fun w' hI=>?_
 refine ad hI 0 rfl HN Kw rfl ?_
 refine Run.call0 sz rG hI (yc ih hks (by omega)) fun v' I' S' w'=>?_
 rintro ⟨rfl,L,rfl,hT⟩ _ hI
 have hv:v'.cells=#[v']/\v'.oneCell'=true:=by obtain ⟨a,cap,rfl,_⟩:=hT; exact ⟨rfl,rfl⟩
 refine cP hI 2 rfl ak al rfl hv.1 hv.2 fun w' hI=>?_
 refine ag hI 2 ac rfl rfl ?_
 refine aj hI 1 rfl ac rfl rfl ?_ fun w' hI=>?_
 ·intro u hu
  have hu':u∈([.int .i64 k,.int .i64 n,.string s,v']:List Value):=hu
  simp at hu'
  rcases hu' with rfl|rfl|rfl|rfl <;> first|rfl|exact hv.2
 refine aS hI 1 ac rfl rfl ?_
 refine ⟨_,_,_,rfl,hI.sub (List.sublist_append_right [_,_,_] (bB L)),Ext.refl _ _ _,rfl,[.int .i64 k,.int .i64 n,.string s,v'],L,rfl,rfl,TrT.iff.2 ⟨v',rfl,h1,h2,hs,hT⟩⟩
theorem AD {ts:List T} {S:ae} {v:Value} (h:RdSl S 4 (RdT S) v ts) (hw:ts.length+wL ts<=1048576):Tri Tryz.prog ow [v] [] S (OC 4 TrT S ts):=
 yc (fun t _=>sX t) h hw

def wC (c:C):Nat:=wT c.head+c.body.length+wL c.body
def wP:List C->Nat
 | []=>0
 | c::cs=>wC c+wP cs
abbrev Qm (S:ae) (c:C):Value->List Item->ae->Prop:=fun v I' S'=>S'=S/\∃ cs L,v=.agg cs.toArray/\I'=bB L/\TrC L cs c
end
section
open Go Go.RowKit
attribute [local irreducible] Run CondV ar aI

theorem yI {α:Type} (p:α->Bool) (l:List α) (k:Nat) (h:k<l.length):(l.drop k).all p=(p l[k] && (l.drop (k+1)).all p):=by
 rw [List.drop_eq_getElem_cons h,List.all_cons]
theorem Fl {α:Type} (p:α->Bool) (l:List α) (k:Nat) (h:k<l.length):(l.drop k).any p=(p l[k] || (l.drop (k+1)).any p):=by
 rw [List.drop_eq_getElem_cons h,List.any_cons]
theorem lB (s:ByteArray):s.data.toList.length=s.size:=by rw [Array.length_toList]; rfl
theorem GB (s:ByteArray) (k:Nat) (h:k<s.size):s.data.toList[k]'(by rw [lB]; exact h)=s[k]:=rfl

theorem tn (s:ByteArray) (hs:s.size<=maxLen) (S:ae):Pure Tryz.prog HI [.string s] S (.bool (iw s)):=by
 intro w hI
 simp only [maxLen] at hs
 refine vZ.2 ?_
 dsimp only[vZ,aE]
 refine ⟨fun i w'=>∃ k:Nat,k<=s.size/\i=.int .i64 k/\(s.data.toList.drop k).all mO=lL s/\Inv w [] [] S w',fun i _=>s.size - (intOf i).toNat,⟨0,Nat.zero_le _,rfl,rfl,hI⟩,?_⟩
 intro t3 _ _ _ _ _ _ _ _ _ _ _ _ _ _ _ _ _ w'
 rintro ⟨k,hk,rfl,hrel,hI⟩
 refine eQ aF ?_
 refine bD ?_
 refine aN (fun hki=>?_) (fun hki=>?_)
 ·have hk':k<s.size:=by omega
  have hstep:=yI mO s.data.toList k (by rw [lB]; exact hk')
  rw [GB s k hk'] at hstep
  refine ⟨fun t w'=>t=.bool (!mO s[k])/\Inv w [] [] S w',?_,?_⟩
  ·refine jq aF hk' ?_
   refine bD ?_
   refine rU (fun h=>⟨?_,hI⟩) (fun h=>?_)
   ·have h:=of_decide_eq_true h
    rw [mO,decide_eq_false (show ¬ 97<=s[k].toNat by omega)]; rfl
   ·refine jq aF hk' ?_
    refine cY ?_
    refine lz h ⟨?_,hI⟩
    have h:=of_decide_eq_false h
    rw [mO,decide_eq_true (show 97<=s[k].toNat by omega),Bool.true_and]
    by_cases h2:s[k].toNat<=122
    ·rw [decide_eq_true h2,decide_eq_false (by omega)]; rfl
    ·rw [decide_eq_false h2,decide_eq_true (by omega)]; rfl
  intro t _ _ _ _ _ _ _ _ _ w'
  rintro ⟨rfl,hI⟩
  refine av (fun h=>done hI ?_) (fun h=>?_)
  ·simp at h
   rw [iw,<- hrel,hstep,h]; rfl
  ·simp at h
   refine bm (by omega) ?_
   refine ⟨⟨k+1,hk',rfl,by rw [<- hrel,hstep,h]; rfl,hI⟩,by simp [intOf]; omega⟩
 ·have:k=s.size:=by omega
  subst this
  have hl:lL s=true:=by rw [<- hrel,<- lB,List.drop_length]; rfl
  refine eQ aF ?_
  refine iu ?_
  refine gH (fun h=>?_) (fun h=>done hI ?_)
  ·refine eQ aF ?_
   refine fi ?_
   refine fm h (done hI ?_)
   have h:=of_decide_eq_true h
   rw [iw,hl,decide_eq_true (show 1<=s.size by omega)]
   by_cases h2:s.size<=6
   ·rw [decide_eq_true h2,decide_eq_true (by omega)]; rfl
   ·rw [decide_eq_false h2,decide_eq_false (by omega)]; rfl
  ·have h:=of_decide_eq_false h
   rw [iw,hl,decide_eq_false (show ¬ 1<=s.size by omega)]; rfl

def uE:Array Value:=(signs.map Value.string).toArray
theorem FO {S:ae} {b:Nat} {E:TypeId} (hS:S b=some (.cells uE E)):RdSl S 1 iQ (.slice (some ⟨b,0,none⟩) 15 15) signs:=by
 refine RdSl.ofCells hS rfl (by decide) ?_
 intro i hi
 have hi':i<15:=hi
 match i,hi' with
 | 0,_|1,_|2,_|3,_|4,_|5,_|6,_|7,_|8,_|9,_|10,_|11,_|12,_|13,_|14,_=>rfl
abbrev Bn (S:ae):Value->List Item->ae->Prop:=fun v I' S'=>I'=[]/\Sle S S'/\RdSl S' 1 iQ v signs
theorem EN {S:ae} {b n:Nat} {o:Obj} (h:n<=b) (hs:Sle S (nD S b o)):Ext n [] S (nD S b o):=
 ⟨hs,fun c o' hc=>by
  simp only [nD] at hc
  split at hc
  ·rename_i e; subst e; exact .inr (.inr h)
  ·exact .inl hc⟩
theorem qd (S:ae):Tri Tryz.prog GG [] [] S (Bn S):=by
 intro w hI
 refine rZ.2 ?_
 dsimp only[rZ,wS]
 refine od (v:=fun b=>.slice (some ⟨b,0,none⟩) 15 15) (o:=.cells uE ff) hI (by kernel_rfl) fun b w' hI=>?_
 have hnew:w.heap.size<=b:=by
  rcases hI.new b (by simp [bz,Item.foot]) with h|h
  ·simp [bz] at h
  ·exact h
 obtain ⟨h1,h2⟩:=Inv.publishLast (L:=[]) hI
 exact ⟨_,_,_,rfl,h1,EN hnew h2,rfl,h2,FO (by simp [nD]; rfl)⟩
theorem FP (s:ByteArray) {xs:List ByteArray} {S:ae} {v:Value} (h:RdSl S 1 iQ v xs):Pure Tryz.prog KQ [v,.string s] S (.bool (xs.any fun x=>decide (x=s))):=by
 intro w hI
 have hlen:=h.le
 simp only [maxLen] at hlen
 refine zt.2 ?_
 dsimp only[zt,aY]
 refine ⟨fun i w'=>∃ k:Nat,k<=xs.length/\i=.int .i64 k/\(xs.drop k).any (fun x=>decide (x=s))=xs.any (fun x=>decide (x=s))/\Inv w [] [] S w',fun i _=>xs.length - (intOf i).toNat,⟨0,Nat.zero_le _,rfl,rfl,hI⟩,?_⟩
 intro t3 _ _ _ _ _ _ _ _ _ _ _ _ _ w'
 rintro ⟨k,hk,rfl,hrel,hI⟩
 refine aK h bH ?_
 refine bD ?_
 refine aN (fun hki=>?_) (fun hki=>?_)
 ·have hk':k<xs.length:=by omega
  have hstep:=Fl (fun x=>decide (x=s)) xs k hk'
  refine eX hI h bH aC hk' (fun cs hcs=>hcs) ?_
  refine bf ?_
  refine av (fun he=>done hI ?_) (fun he=>?_)
  ·rw [<- hrel,hstep,he]; rfl
  ·refine bm (by omega) ?_
   exact ⟨⟨k+1,hk',rfl,by rw [<- hrel,hstep,he]; rfl,hI⟩,by simp [intOf]; omega⟩
 ·have:k=xs.length:=by omega
  subst this
  exact done hI (by rw [<- hrel,List.drop_length]; rfl)
theorem sG {w w':World} {L:List Item} {S S':ae} {r r':Value} (h:Inv w [] L S' w') (hs:Sle S S') (e:r'=r):Ending.returned r'=.returned r/\Inv w [] [] S w':=⟨by rw [e],h.nil.less hs⟩
theorem vh (s:ByteArray) (hs:s.size<=maxLen) (S:ae):Pure Tryz.prog A2 [.string s] S (.bool (gt s)):=by
 intro w hI
 refine om.2 ?_
 dsimp only[om,aE]
 refine Run.callPure vL vP hI (tn s hs S) fun w' hI=>?_
 refine rU (fun h=>done hI ?_) (fun h=>?_)
 ·rw [gt,h]; rfl
 ·refine Run.call0 uh tb hI (qd S) fun v' I' S' w'=>?_
  rintro ⟨rfl,_,hr⟩ hle hI
  refine Run.callPure GX Hg hI (FP s hr) fun w' hI=>?_
  refine lz h (sG hI hle ?_)
  rw [gt,h]; rfl

theorem Gu {t:T} {S:ae} {cs:List Value} (h:RdT S cs t):Pure Tryz.prog Ko [.agg cs.toArray] S (.bool (dC t)):=by
 intro w hI
 obtain ⟨kv,rfl,_,_,hs,hks⟩:=RdT.iff.1 h
 obtain ⟨k,n,s,ks⟩:=t
 simp only [T.name,T.kids,T.kind,T.n] at hs hks ⊢
 refine zq.2 ?_
 dsimp only[zq,aE]
 refine be hI fun b1 w' hI=>?_
 refine ad hI 0 rfl aM aw rfl ?_
 refine bh ?_
 refine aN (fun hk=>?_) (fun hk=>?_)
 ·have ho:dC (.mk k n s ks)=(decide (0<=n) && (decide (n<=25) && (decide (s=emptyB) && decide (ks.length=0)))):=by
   rw [dC]; exact if_pos hk
  refine ad hI 0 rfl aR aw rfl ?_
  refine iu ?_
  refine gH (fun h1=>?_) (fun h1=>?_)
  ·refine ad hI 0 rfl aR aw rfl ?_
   refine fi ?_
   refine fm h1 ?_
   refine gH (fun h2=>?_) (fun h2=>?_)
   ·refine ad hI 0 rfl aH aC rfl ?_
    refine bf ?_
    refine fm h2 ?_
    refine gH (fun h3=>?_) (fun h3=>done hI ?_)
    ·refine ad hI 0 rfl ak al rfl ?_
     refine aK hks ah ?_
     refine bh ?_
     refine fm h3 (done hI ?_)
     rw [ho,h1,h2,show decide (s=emptyB)=true from h3]
     simp
    ·rw [ho,h1,h2,show decide (s=emptyB)=false from h3]; rfl
   ·refine mw (done hI ?_)
    rw [ho,h1,h2]; rfl
  ·refine mw (mw (done hI ?_))
   rw [ho,h1]; rfl
 refine bh ?_
 refine aN (fun hk2=>?_) (fun hk2=>?_)
 ·have ho:dC (.mk k n s ks)=(decide (-999<=n) && (decide (n<=999) && (decide (s=emptyB) && decide (ks.length=0)))):=by
   rw [dC]; exact (if_neg hk).trans (if_pos hk2)
  refine ad hI 0 rfl aR aw rfl ?_
  refine iu ?_
  refine gH (fun h1=>?_) (fun h1=>?_)
  ·refine ad hI 0 rfl aR aw rfl ?_
   refine fi ?_
   refine fm h1 ?_
   refine gH (fun h2=>?_) (fun h2=>?_)
   ·refine ad hI 0 rfl aH aC rfl ?_
    refine bf ?_
    refine fm h2 ?_
    refine gH (fun h3=>?_) (fun h3=>done hI ?_)
    ·refine ad hI 0 rfl ak al rfl ?_
     refine aK hks ah ?_
     refine bh ?_
     refine fm h3 (done hI ?_)
     rw [ho,h1,h2,show decide (s=emptyB)=true from h3]
     simp
    ·rw [ho,h1,h2,show decide (s=emptyB)=false from h3]; rfl
   ·refine mw (done hI ?_)
    rw [ho,h1,h2]; rfl
  ·refine mw (mw (done hI ?_))
   rw [ho,h1]; rfl
 refine bh ?_
 refine aN (fun hk3=>?_) (fun hk3=>done hI ?_)
 ·have ho:dC (.mk k n s ks)=(decide (n=0) && (gt s && decide (ks.length<=4))):=by
   rw [dC]; exact (if_neg hk).trans ((if_neg hk2).trans (if_pos hk3))
  refine ad hI 0 rfl aR aw rfl ?_
  refine bh ?_
  refine gH (fun h1=>?_) (fun h1=>?_)
  ·refine ad hI 0 rfl aH aC rfl ?_
   refine Run.callPure yH yF hI (vh s hs S) fun w' hI=>?_
   refine fm h1 ?_
   refine gH (fun h2=>?_) (fun h2=>done hI ?_)
   ·refine ad hI 0 rfl ak al rfl ?_
    refine aK hks ah ?_
    refine fi ?_
    refine fm h2 (done hI ?_)
    rw [ho,h1,h2]
    simp
    omega
   ·rw [ho,h1,h2]; rfl
  ·refine mw (done hI ?_)
   rw [ho,h1]; rfl
 ·rw [dC]
  exact congrArg Value.bool ((if_neg hk).trans ((if_neg hk2).trans (if_neg hk3))).symm

theorem Ah:∀ (t:T) (S:ae) (cs:List Value) (d:Int),RdT S cs t->-1<=d->d<=1000->Pure Tryz.prog EF [.agg cs.toArray,.int .i64 d] S (.bool (ei t d)):=by
 refine T.ind fun k n s ks ih S cs d h h0 h1=>?_
 intro w hI
 have hcs:=h
 obtain ⟨kv,rfl,_,_,hs,hks⟩:=RdT.iff.1 h
 simp only [T.name,T.kids,T.kind,T.n] at hs hks ⊢
 have hlen:=hks.le
 simp only [maxLen] at hlen
 refine sY.2 ?_
 dsimp only[sY,aY]
 refine be hI fun b1 w' hI=>?_
 refine ⟨fun t w'=>t=.bool (decide (d<1) || !dC (.mk k n s ks))/\Inv w [] [.blk b1 (.cells #[.int .i64 k,.int .i64 n,.string s,kv] ab)] S w',?_,?_⟩
 ·refine bD ?_
  refine rU (fun h=>⟨by rw [h]; rfl,hI⟩) (fun h=>?_)
  refine ag hI 0 ac rfl rfl ?_
  refine Run.callPure IV IE hI (Gu hcs) fun w' hI=>?_
  refine bW ?_
  exact lz h ⟨by rw [h]; rfl,hI⟩
 intro t _ _ _ _ _ _ w'
 rintro ⟨rfl,hI⟩
 refine av (fun hb=>done hI ?_) (fun hb=>?_)
 ·rw [ei]
  by_cases hd:d<1
  ·rw [if_pos hd]
  ·rw [if_neg hd]
   simp [hd] at hb
   rw [hb]; rfl
 have hd:¬ d<1:=fun h=>by simp [h] at hb
 have ho:dC (.mk k n s ks)=true:=by simp [hd] at hb; exact hb
 refine ⟨fun i w'=>∃ j:Nat,j<=ks.length/\i=.int .i64 j/\eV (ks.drop j) (d - 1)=eV ks (d - 1)/\Inv w [] [.blk b1 (.cells #[.int .i64 k,.int .i64 n,.string s,kv] ab)] S w',
  fun i _=>ks.length - (intOf i).toNat,⟨0,Nat.zero_le _,rfl,rfl,hI⟩,?_⟩
 intro t5 _ _ _ _ _ _ _ _ _ _ _ _ _ _ _ _ _ w'
 rintro ⟨j,hj,rfl,hrel,hI⟩
 refine ad hI 0 rfl ak al rfl ?_
 refine aK hks ah ?_
 refine bD ?_
 refine aN (fun hji=>?_) (fun hji=>?_)
 ·have hj':j<ks.length:=by omega
  have hstep:eV (ks.drop j) (d - 1)=(ei ks[j] (d - 1) && eV (ks.drop (j+1)) (d - 1)):=by
   rw [List.drop_eq_getElem_cons hj',eV]
  refine ad hI 0 rfl ak al rfl ?_
  refine bP hI hks ah ac hj' (fun _ _=>RdT.length) fun cs' hcs'=>?_
  refine gy (by omega) ?_
  refine Run.callPure rM sA hI (ih _ (List.getElem_mem hj') S cs' (d - 1) hcs' (by omega) (by omega)) fun w' hI=>?_
  refine bW ?_
  refine av (fun hne=>done hI ?_) (fun he=>?_)
  ·simp at hne
   rw [ei,if_neg hd,ho,<- hrel,hstep,hne]; rfl
  ·simp at he
   refine bm (by omega) ?_
   exact ⟨⟨j+1,hj',rfl,by rw [<- hrel,hstep,he]; rfl,hI⟩,by simp [intOf]; omega⟩
 ·have:j=ks.length:=by omega
  subst this
  refine done hI ?_
  rw [ei,if_neg hd,ho,<- hrel,List.drop_length,eV]; rfl

theorem qU:∀ (ts:List T) (j:Nat) (h:j<ts.length),cL (ts.drop j)=dl ts[j]+cL (ts.drop (j+1)):=by
 intro ts j h
 rw [List.drop_eq_getElem_cons h,cL]
theorem Ba:∀ (t:T) (S:ae) (cs:List Value) (most:Int),RdT S cs t->0<=most->most<=1000->dl t<=4611686018427387904->Pure Tryz.prog Et [.agg cs.toArray,.int .i64 most] S (.int .i64 (iG t most)):=by
 refine T.ind fun k n s ks ih S cs most h h0 h1 hc=>?_
 intro w hI
 obtain ⟨kv,rfl,_,_,hs,hks⟩:=RdT.iff.1 h
 simp only [T.name,T.kids,T.kind,T.n] at hs hks ⊢
 have hlen:=hks.le
 simp only [maxLen] at hlen
 rw [show dl (T.mk k n s ks)=1+cL ks from rfl] at hc
 refine th.2 ?_
 dsimp only[th,aY]
 refine be hI fun b1 w' hI=>?_
 refine ⟨fun i m w'=>∃ (j:Nat) (c:Int),j<=ks.length/\i=.int .i64 j/\m=.int .i64 c/\1<=c/\c+cL (ks.drop j)<=1+cL ks/\fo (ks.drop j) c most=fo ks 1 most/\Inv w [] [.blk b1 (.cells #[.int .i64 k,.int .i64 n,.string s,kv] ab)] S w',
  fun i _ _=>ks.length - (intOf i).toNat,⟨0,1,Nat.zero_le _,rfl,rfl,by omega,by rw [List.drop_zero]; omega,rfl,hI⟩,?_⟩
 intro t6 _ _ t5 _ _ _ _ _ _ _ _ _ _ _ _ _ _ _ _ _ _ _ _ _ w'
 rintro ⟨j,c,hj,rfl,rfl,hc1,hc2,hrel,hI⟩
 refine ⟨fun t w'=>t=.bool (decide (j<ks.length) && decide (c<=most))/\Inv w [] [.blk b1 (.cells #[.int .i64 k,.int .i64 n,.string s,kv] ab)] S w',?_,?_⟩
 ·refine ad hI 0 rfl ak al rfl ?_
  refine aK hks ah ?_
  refine bD ?_
  refine gH (fun h=>?_) (fun h=>⟨?_,hI⟩)
  ·refine fi ?_
   refine fm h ⟨?_,hI⟩
   rw [decide_eq_true (show j<ks.length from by have:=of_decide_eq_true h; omega)]; rfl
  ·rw [decide_eq_false (show ¬ j<ks.length from by have:=of_decide_eq_false h; omega)]; rfl
 intro t _ _ _ _ _ _ _ _ _ w'
 rintro ⟨rfl,hI⟩
 refine av (fun hb=>?_) (fun hb=>done hI ?_)
 ·simp at hb
  obtain ⟨hj',hcm⟩:=hb
  have hsp:=qU ks j hj'
  have hstep:fo (ks.drop j) c most=fo (ks.drop (j+1)) (c+iG ks[j] (most - c)) most:=by
   rw [List.drop_eq_getElem_cons hj',fo,if_pos hcm]
  have hct:=uX ks[j] (most - c) (by omega)
  have hp:=fG ks[j]
  have hlp:=dS (ks.drop (j+1))
  have hcle:1<=iG ks[j] (most - c)/\iG ks[j] (most - c)<=dl ks[j]:=by
   by_cases hq:dl ks[j]<=most - c
   ·rw [hct.1 hq]; omega
   ·have:=hct.2 (by omega); omega
  refine ad hI 0 rfl ak al rfl ?_
  refine bP hI hks ah ac hj' (fun _ _=>RdT.length) fun cs' hcs'=>?_
  refine gy (by omega) ?_
  refine Run.callPure tL sH hI (ih _ (List.getElem_mem hj') S cs' (most - c) hcs' (by omega) (by omega) (by omega)) fun w' hI=>?_
  refine bm (by omega) ?_
  refine bm (by omega) ?_
  exact ⟨⟨j+1,_,hj',rfl,rfl,by omega,by omega,by rw [<- hrel,hstep],hI⟩,by simp [intOf]; omega⟩
 ·show Value.int .i64 c=Value.int .i64 (fo ks 1 most)
  rw [<- hrel]
  by_cases hj':j<ks.length
  ·simp [hj'] at hb
   rw [List.drop_eq_getElem_cons hj',fo,if_neg (by omega)]
  ·rw [List.drop_eq_nil_of_le (by omega),fo]

mutual
theorem Lg:∀ t:T,dl t<=1+(wT t:Int)
 | .mk k n s ks=>by
  rw [show dl (T.mk k n s ks)=1+cL ks from rfl,wT]
  have:=DA ks
  omega
theorem DA:∀ ts:List T,cL ts<=ts.length+(wL ts:Int)
 | []=>by simp [cL,wL]
 | t::ts=>by
  rw [show cL (t::ts)=dl t+cL ts from rfl,wL,List.length_cons]
  have:=Lg t; have:=DA ts
  omega
end

theorem gW {t:T} {S:ae} {cs:List Value} (h:RdT S cs t) (hc:dl t<=4611686018427387904):Pure Tryz.prog Bc [.agg cs.toArray] S (.bool (cE t)):=by
 intro w hI
 have hl:=h.length
 refine oC.2 ?_
 dsimp only[oC,aE]
 refine be hI fun b1 w' hI=>?_
 refine ag hI 0 ac rfl (by simpa [Value.cells] using hl) ?_
 refine Run.callPure rM sA hI (Ah t S cs 30 h (by omega) (by omega)) fun w' hI=>?_
 refine gH (fun h1=>?_) (fun h1=>done hI ?_)
 ·refine ag hI 0 ac rfl (by simpa [Value.cells] using hl) ?_
  refine Run.callPure tL sH hI (Ba t S cs 120 h (by omega) (by omega) hc) fun w' hI=>?_
  refine fi ?_
  refine fm h1 (done hI ?_)
  rw [cE,h1,KO]; rfl
 ·rw [cE,h1]; rfl
end
end Go.Proofs.YtbocelianhcfmaaGreatDoor
