/- Data that a function has made for itself: trees of blocks that nobody else knows. -/
import Derived.Test.YtfcbhfjomgopbaaGreatZFfS
import Derived.Test.YtfcbhfjomgopbaaGreatZFfF
import Derived.Test.YtfcbhfjomgopbaaGreatZFfgz
namespace Go.Proofs.YtfcbhfjomgopbaaGreat
section
open Go Go.RowKit
attribute [local irreducible] Run CondV aB aS

abbrev bg:=List (Nat × Obj)
def bq (L:bg):List Item:=L.map fun p=>.blk p.1 p.2
theorem eJ (L M:bg):bq (L++M)=bq L++bq M:=by simp [bq]
def Ins (S:ae) (L:bg):Prop:=∀ p∈L,S p.1=some p.2
theorem Ins.mono {S S':ae} {L:bg} (h:Ins S L) (hs:Sle S S'):Ins S' L:=fun p hp=>hs _ _ (h p hp)
theorem Ins.left {S:ae} {L M:bg} (h:Ins S (L++M)):Ins S L:=fun p hp=>h p (List.mem_append_left _ hp)
theorem Ins.right {S:ae} {L M:bg} (h:Ins S (L++M)):Ins S M:=fun p hp=>h p (List.mem_append_right _ hp)
theorem jb {L:bg} {b:Nat}:b∈bE (bq L)↔∃ p∈L,p.1=b:=by
 simp only [bE,bq,List.mem_flatMap,List.mem_map]
 constructor
 ·rintro ⟨it,⟨p,hp,rfl⟩,hb⟩
  simp only [Item.foot,List.mem_singleton] at hb
  exact ⟨p,hp,hb.symm⟩
 ·rintro ⟨p,hp,rfl⟩
  exact ⟨_,⟨p,hp,rfl⟩,by simp [Item.foot]⟩

theorem Inv.publishAll {w0 w:World} {X:List Nat} {A:List Item}:∀ (L:bg) {S:ae},Inv w0 X (A++bq L) S w->
  ∃ S',Inv w0 X A S' w/\Sle S S'/\Ins S' L/\∀ b o,S' b=some o->S b=some o ∨ b∈bE (bq L)
 | [],S,h=>⟨S,by simpa [bq] using h,Sle.refl S,by intro p hp; simp at hp,fun b o hb=>.inl hb⟩
 | p::L,S,h=>by
  have hi:(A++bq (p::L))[A.length]?=some (.blk p.1 p.2):=by simp [bq]
  obtain ⟨h1,h2⟩:=h.publish hi
  have he:(A++bq (p::L)).eraseIdx A.length=A++bq L:=by simp [bq,List.eraseIdx_append_of_length_le]
  rw [he] at h1
  obtain ⟨S',h3,h4,h5,h6⟩:=publishAll L h1
  refine ⟨S',h3,h2.trans h4,fun q hq=>?_,fun b o hb=>?_⟩
  ·rcases List.mem_cons.1 hq with rfl|hq
   ·exact h4 _ _ (by simp [qv])
   ·exact h5 q hq
  ·rcases h6 b o hb with h7|h7
   ·simp only [qv] at h7
    split at h7
    ·rename_i e; right; rw [jb]; exact ⟨p,List.mem_cons_self ..,e.symm⟩
    ·exact .inl h7
   ·right
    obtain ⟨q,hq,e⟩:=jb.1 h7
    exact jb.2 ⟨q,List.mem_cons_of_mem _ hq,e⟩

def TrSl {α:Type} (k:Nat) (R:bg->List Value->α->Prop) (L:bg) (v:Value) (xs:List α):Prop:=
 ∃ a cap,v=.slice a xs.length cap/\xs.length<=cap/\cap<=maxLen/\
  ((xs=[]/\L=[]) ∨ ∃ b c E,∃ Ls:List bg,a=some ⟨b,0,none⟩/\L=(b,.cells c E)::Ls.flatten/\Ls.length=xs.length/\cap * k<=c.size/\
   ∀ i (h:i<xs.length) (h':i<Ls.length),R Ls[i] (aH c (i * k) k) xs[i])
inductive TrT:bg->List Value->T->Prop
 | nil {k n:Int} {s:ByteArray} {a:Option Addr} {cap:Nat} (hk:inI k) (hn:inI n) (hs:s.size<=maxLen) (hc:cap<=maxLen) :
   TrT [] [.int .i64 k,.int .i64 n,.string s,.slice a 0 cap] (.mk k n s [])
 | cons {k n:Int} {s:ByteArray} {kids:List T} {b cap:Nat} {c:Array Value} {E:TypeId} {Ls:List bg} (hk:inI k) (hn:inI n) (hs:s.size<=maxLen) (hl:kids.length<=cap) (hc:cap<=maxLen)
   (hLs:Ls.length=kids.length) (hsz:cap * 4<=c.size) (h:∀ i (h:i<kids.length) (h':i<Ls.length),TrT Ls[i] (aH c (i * 4) 4) kids[i]) :
   TrT ((b,.cells c E)::Ls.flatten) [.int .i64 k,.int .i64 n,.string s,.slice (some ⟨b,0,none⟩) kids.length cap] (.mk k n s kids)
theorem TrT.iff {L:bg} {cs:List Value} {t:T}:TrT L cs t ↔
  ∃ ks,cs=[.int .i64 t.kind,.int .i64 t.n,.string t.name,ks]/\inI t.kind/\inI t.n/\t.name.size<=maxLen/\TrSl 4 TrT L ks t.kids:=by
 constructor
 ·intro h
  cases h with
  | nil hk hn hs hc=>exact ⟨_,rfl,hk,hn,hs,_,_,rfl,Nat.zero_le _,hc,.inl ⟨rfl,rfl⟩⟩
  | cons hk hn hs hl hc hLs hsz h=>exact ⟨_,rfl,hk,hn,hs,_,_,rfl,hl,hc,.inr ⟨_,_,_,_,rfl,rfl,hLs,hsz,h⟩⟩
 ·obtain ⟨k,n,s,kids⟩:=t
  rintro ⟨ks,rfl,hk,hn,hs,a,cap,rfl,hl,hc,h⟩
  rcases h with ⟨h,rfl⟩|⟨b,c,E,Ls,rfl,rfl,hLs,hsz,h⟩
  ·simp only [T.kids] at h
   subst h
   exact TrT.nil hk hn hs hc
  ·exact TrT.cons hk hn hs hl hc hLs hsz h
theorem TrT.length {L:bg} {cs:List Value} {t:T} (h:TrT L cs t):cs.length=4:=by
 obtain ⟨ks,rfl,_⟩:=TrT.iff.1 h; rfl
theorem TrT.one {L:bg} {cs:List Value} {t:T} (h:TrT L cs t):∀ u∈cs,u.oneCell'=true:=by
 obtain ⟨ks,rfl,_,_,_,a,cap,rfl,_⟩:=TrT.iff.1 h
 intro u hu
 simp at hu
 rcases hu with rfl|rfl|rfl|rfl <;> rfl
theorem RdT.one {S:ae} {cs:List Value} {t:T} (h:RdT S cs t):∀ u∈cs,u.oneCell'=true:=by
 obtain ⟨ks,rfl,_,_,_,a,cap,rfl,_⟩:=RdT.iff.1 h
 intro u hu
 simp at hu
 rcases hu with rfl|rfl|rfl|rfl <;> rfl
theorem Af {S:ae} {Ls:List bg} (h:Ins S Ls.flatten) {i:Nat} (hi:i<Ls.length):Ins S Ls[i]:=
 fun p hp=>h p (List.mem_flatten.2 ⟨_,List.getElem_mem hi,hp⟩)
theorem TrSl.rd {α:Type} {S:ae} {k:Nat} {R:bg->List Value->α->Prop} {R':List Value->α->Prop} {L:bg} {v:Value} {xs:List α} (h:TrSl k R L v xs) (hi:Ins S L)
  (hR:∀ L cs x,Ins S L->R L cs x->R' cs x):RdSl S k R' v xs:=by
 obtain ⟨a,cap,rfl,hl,hc,h⟩:=h
 refine ⟨a,cap,rfl,hl,hc,?_⟩
 rcases h with ⟨h,_⟩|⟨b,c,E,Ls,rfl,rfl,hLs,hsz,h⟩
 ·exact .inl h
 ·refine .inr ⟨b,0,c,E,(0,0),rfl,hi _ (List.mem_cons_self ..),fun i h1=>?_⟩
  rw [Nat.zero_add]
  exact hR _ _ _ (Af (fun p hp=>hi p (List.mem_cons_of_mem _ hp)) (by omega)) (h i h1 (by omega))
theorem TrT.rd {S:ae} {L:bg} {cs:List Value} {t:T} (h:TrT L cs t) (hi:Ins S L):RdT S cs t:=by
 induction h with
 | nil hk hn hs hc=>exact RdT.nil hk hn hs hc
 | cons hk hn hs hl hc hLs hsz h ih=>
  refine RdT.cons hk hn hs hl hc (hi _ (List.mem_cons_self ..)) (o:=0) fun i h1=>?_
  rw [Nat.zero_add]
  exact ih i h1 (by omega) (Af (fun p hp=>hi p (List.mem_cons_of_mem _ hp)) (by omega))
def TrC (L:bg) (cs:List Value) (c:C):Prop:=∃ hd ks L1 L2,cs=hd++[ks]/\L=L1++L2/\TrT L1 hd c.head/\TrSl 4 TrT L2 ks c.body
theorem TrC.rd {S:ae} {L:bg} {cs:List Value} {c:C} (h:TrC L cs c) (hi:Ins S L):RdC S cs c:=by
 obtain ⟨hd,ks,L1,L2,rfl,rfl,h1,h2⟩:=h
 exact ⟨hd,ks,rfl,h1.rd hi.left,h2.rd hi.right fun _ _ _ hi h=>h.rd hi⟩
theorem TrC.length {L:bg} {cs:List Value} {c:C} (h:TrC L cs c):cs.length=5:=by
 obtain ⟨hd,ks,L1,L2,rfl,rfl,h1,h2⟩:=h; simp [h1.length]
theorem TrC.one {L:bg} {cs:List Value} {c:C} (h:TrC L cs c):∀ u∈cs,u.oneCell'=true:=by
 obtain ⟨hd,ks,L1,L2,rfl,rfl,h1,a,cap,rfl,_⟩:=h
 intro u hu
 rcases List.mem_append.1 hu with hu|hu
 ·exact h1.one u hu
 ·simp at hu; subst hu; rfl

section
variable {P:Program} {w w0:World} {X:List Nat} {L:List Item} {S:ae} {K:Value->World->Prop}
theorem Run.call0 {f:FuncId} {fn:Func} {args:List Value} {Post:Value->List Item->ae->Prop}
  (hf:P.funcs[f]?=some fn) (hn:(fn.name == "runtime.NumGoroutine" || fn.body.isNone)=false) (h:Inv w0 X L S w) (hc:Tri P f args [] S Post)
  (hk:∀ v I' S' w',Post v I' S'->Sle S S'->Inv w0 X (L++I') S' w'->K v w'):Run P (eA (.func (.func f) #[] #[]) args) w K:=
 Run.call (A:=L) (I:=[]) hf hn (by simpa using h) hc hk
theorem cG {T U ty ty' E:TypeId} {f d b:Nat} {c:Array Value} {v:Value} (hI:Inv w0 X L S w) (i:Nat) (hi:L[i]?=some (.blk b (.cells c E))) (hf:bP P T f=some d) (hU:iM P U=true) (hlt:Nat.blt d c.size=true)
  (hv:v.cells=#[v]) (h1:v.oneCell'=true)
  {K:Value->Value->World->Prop} (hk:∀ w',Inv w0 X (L.set i (.blk b (.cells (c.setIfInBounds d v) E))) S w'->K (.pointer (some ⟨b,d,none⟩)) undef w') :
  Run P (sOp (.fieldAddr T (.const (.pointer (some ⟨b,0,none⟩))) f) ty) w fun q w'=>Run P (sOp (.store U (.const q) (.const v)) ty') w' (K q):=by
 have hlt:d<c.size:=by simpa [Nat.blt_eq] using hlt
 refine ai hf ?_
 rw [Nat.zero_add]
 refine dK hI i (n:=1) (by rw [hv]; rfl) (by rw [hU]; rfl) hi (by omega) (by rw [hv]; simpa using h1) fun w' hI'=>hk w' ?_
 have:bx c d v.cells.toList=c.setIfInBounds d v:=by
  rw [hv]
  apply Array.toList_inj.1
  simp only [bx,Array.toList_setIfInBounds]
  have hl:d<c.toList.length:=by simpa using hlt
  rw [List.set_eq_take_append_cons_drop,if_pos hl]
  simp
 rw [this] at hI'
 exact hI'
theorem kP {T ty E:TypeId} {o b n:Nat} {c:Array Value} {v:Value} (hI:Inv w0 X L S w) (i:Nat) (hi:L[i]?=some (.blk b (.cells c E))) (hT:lm P T=some n) (hn:v.cells.size=n) (hfit:Nat.ble (o+n) c.size=true)
  (h1:∀ u∈v.cells.toList,u.oneCell'=true) (hk:∀ w',Inv w0 X (L.set i (.blk b (.cells (bx c o v.cells.toList) E))) S w'->K undef w') :
  Run P (sOp (.store T (.const (.pointer (some ⟨b,o,none⟩))) (.const v)) ty) w K:=
 dK hI i hn (by rw [hT]; simp) hi (Nat.le_of_ble_eq_true hfit) h1 hk
theorem ao {T ty E:TypeId} {b n:Nat} {c cs:Array Value} (hI:Inv w0 X L S w) (i:Nat) (hi:L[i]?=some (.blk b (.cells c E))) (hT:lm P T=some n) (hn:cs.size=n) (hc:c.size=n)
  (h1:∀ u∈cs.toList,u.oneCell'=true) (hk:∀ w',Inv w0 X (L.set i (.blk b (.cells cs E))) S w'->K undef w') :
  Run P (sOp (.store T (.const (.pointer (some ⟨b,0,none⟩))) (.const (.agg cs))) ty) w K:=by
 refine dK hI i (v:=.agg cs) (n:=n) hn (by rw [hT]; simp) hi (by omega) h1 fun w' hI'=>hk w' ?_
 have:bx c 0 (Value.agg cs).cells.toList=cs:=by
  rw [wh _ _ (by simp [Value.cells,hn,hc])]
  simp [Value.cells]
 rw [this] at hI'
 exact hI'
theorem HD {T U ty ty' E E':TypeId} {k b len cap j:Nat} {c:Array Value} {v:Value} (hI:Inv w0 X L S w) (i:Nat) (hi:L[i]?=some (.blk b (.cells c E'))) (hu:cB P T=some (E,k)) (hU:lm P U=some k)
  (hj:j<len) (hfit:(j+1) * k<=c.size) (hv:v.cells.size=k) (h1:∀ u∈v.cells.toList,u.oneCell'=true)
  {K:Value->Value->World->Prop} (hk:∀ w',Inv w0 X (L.set i (.blk b (.cells (bx c (j * k) v.cells.toList) E'))) S w'->K (.pointer (some ⟨b,j * k,none⟩)) undef w') :
  Run P (sOp (.indexAddr T (.const (.slice (some ⟨b,0,none⟩) len cap)) (.const (.int .i64 j))) ty) w fun p w'=>Run P (sOp (.store U (.const p) (.const v)) ty') w' (K p):=by
 refine au hu hj ?_
 rw [Nat.zero_add]
 exact dK hI i (n:=k) hv (by rw [hU]; simp) hi (by rw [Nat.add_mul,Nat.one_mul] at hfit; omega) h1 hk
end

theorem TrSl.nil {α:Type} {k:Nat} {R:bg->List Value->α->Prop} {a:Option Addr} {cap:Nat} (hc:cap<=maxLen):TrSl k R [] (.slice a 0 cap) ([]:List α):=
 ⟨a,cap,rfl,Nat.zero_le _,hc,.inl ⟨rfl,rfl⟩⟩
def Part {α:Type} (k:Nat) (R:bg->List Value->α->Prop) (c:Array Value) (Ls:List bg) (xs:List α):Prop:=
 Ls.length=xs.length/\∀ i (h:i<xs.length) (h':i<Ls.length),R Ls[i] (aH c (i * k) k) xs[i]
theorem Part.nil {α:Type} (k:Nat) (R:bg->List Value->α->Prop) (c:Array Value):Part k R c [] ([]:List α):=⟨rfl,fun i h=>by simp at h⟩
theorem Part.snoc {α:Type} {k:Nat} {R:bg->List Value->α->Prop} {c:Array Value} {Ls:List bg} {xs:List α} (h:Part k R c Ls xs) {cs:List Value} {L:bg} {x:α} (hx:R L cs x) (hl:cs.length=k)
  (hfit:(xs.length+1) * k<=c.size):Part k R (bx c (xs.length * k) cs) (Ls++[L]) (xs++[x]):=by
 have hf:xs.length * k+cs.length<=c.size:=by rw [hl]; rw [Nat.add_mul,Nat.one_mul] at hfit; exact hfit
 refine ⟨by simp [h.1],fun i h1 h2=>?_⟩
 by_cases hi:i<xs.length
 ·have h3:i<Ls.length:=by rw [h.1]; exact hi
  rw [List.getElem_append_left h3,List.getElem_append_left hi,iu hf]
  ·exact h.2 i hi h3
  ·left
   have:(i+1) * k<=xs.length * k:=Nat.mul_le_mul_right _ hi
   rw [Nat.add_mul,Nat.one_mul] at this
   exact this
 ·have hi':i=xs.length:=by simp at h1; omega
  subst hi'
  have h3:xs.length=Ls.length:=h.1.symm
  rw [List.getElem_append_right (by omega),List.getElem_append_right (by omega)]
  simp only [h3,Nat.sub_self,List.getElem_cons_zero]
  rw [<- h3,<- hl,gD (by rw [hl] at hf ⊢; exact hf)]
  exact hx
theorem Part.sl {α:Type} {k:Nat} {R:bg->List Value->α->Prop} {b:Nat} {c:Array Value} {E:TypeId} {Ls:List bg} {xs:List α} {cap:Nat} (h:Part k R c Ls xs) (h1:xs.length<=cap) (h2:cap<=maxLen) (h3:cap * k<=c.size) :
  TrSl k R ((b,.cells c E)::Ls.flatten) (.slice (some ⟨b,0,none⟩) xs.length cap) xs:=
 ⟨_,cap,rfl,h1,h2,.inr ⟨b,c,E,Ls,rfl,rfl,h.1,h3,h.2⟩⟩
end
section
open Go Go.RowKit
section
variable {P:Program} {w:World} {K:Value->World->Prop} {ty:TypeId}
attribute [local irreducible] Run CondV aB aS
theorem iE {a:Bool} {v:Value} {A:Prop} (ht:a=true->A) (hf:a=false->K (.bool false) w):aB (.bool a) true A (Run P (sOp (.pick (.const (.bool a)) (.const v) (.const (.bool false))) ty) w K):=
 K4 ht fun h=>by
  have h':a=false:=by simpa using h
  refine tA ?_
  rw [h']
  exact hf h'
theorem gt {a:Bool} {v u:Value} (ha:a=true) (hk:K v w):Run P (sOp (.pick (.const (.bool a)) (.const v) (.const u)) ty) w K:=by
 refine tA ?_
 rw [ha]
 exact hk
theorem od {v:Value} {A:Prop} (hk:K (.bool false) w):aB (.bool false) true A (Run P (sOp (.pick (.const (.bool false)) (.const v) (.const (.bool false))) ty) w K):=
 iE (fun h=>by cases h) fun _=>hk
theorem uK {a:Bool} {v:Value} {A:Prop} (ht:a=true->K (.bool true) w) (hf:a=false->A):aB (.bool a) false A (Run P (sOp (.pick (.const (.bool a)) (.const (.bool true)) (.const v)) ty) w K):=
 K4 hf fun h=>by
  have h':a=true:=by simpa using h
  refine tA ?_
  rw [h']
  exact ht h'
theorem nn {a:Bool} {v u:Value} (ha:a=false) (hk:K v w):Run P (sOp (.pick (.const (.bool a)) (.const u) (.const v)) ty) w K:=by
 refine tA ?_
 rw [ha]
 exact hk
theorem RA {v:Value} {A:Prop} (hk:K (.bool true) w):aB (.bool true) false A (Run P (sOp (.pick (.const (.bool true)) (.const (.bool true)) (.const v)) ty) w K):=
 uK (fun _=>hk) fun h=>by cases h
end

def mS (cs:List Value) (s:ByteArray):Prop:=cs=[.string s]
def ig (cs:List Value) (n:Int):Prop:=cs=[.int .i64 n]
section
variable {P:Program} {w w0:World} {X:List Nat} {L:List Item} {S:ae} {K:Value->World->Prop}
attribute [local irreducible] Run CondV aB aS
theorem qz (h:Inv w0 X L S w) {s:Sem Next} {v:Nat->Value} {o:Obj} (hr:s.run P w=.ok (.value (v w.heap.size)) { w with heap:=w.heap.push o })
  (hk:∀ b w',Inv w0 X (L++[.blk b o]) S w'->K (v b) w'):Run P s w K:=Run.of hr (hk _ _ (h.alloc o))
theorem Inv.publishLast {b:Nat} {o:Obj} (h:Inv w0 X (L++[.blk b o]) S w):Inv w0 X L (qv S b o) w/\Sle S (qv S b o):=by
 have hi:(L++[Item.blk b o])[L.length]?=some (.blk b o):=by simp
 have:=h.publish hi
 rwa [show (L++[Item.blk b o]).eraseIdx L.length=L by simp [List.eraseIdx_append_of_length_le]] at this
theorem fy {α:Type} {T U ty ty' E:TypeId} {R:List Value->α->Prop} {v u:Value} {xs:List α} (hI:Inv w0 X L S w) (h:RdSl S 1 R v xs) (hu:cB P T=some (E,1)) (hU:iM P U=true)
  {i:Nat} (hi:i<xs.length) (hR:∀ cs,R cs xs[i]->cs=[u]) {K:Value->Value->World->Prop} (hk:K (elP v (i * 1)) u w) :
  Run P (sOp (.indexAddr T (.const v) (.const (.int .i64 i))) ty) w fun p w'=>Run P (sOp (.load U (.const p)) ty') w' (K p):=by
 obtain ⟨b,o,cap,c,E',fz,rfl,hS,hr⟩:=h.at_ hi
 refine au hu hi ?_
 refine cz hU ?_ hk
 rw [hI.cellS hS]
 exact ar (hR _ hr) 0 u rfl
end
theorem RdSl.ofCells {α:Type} {S:ae} {R:List Value->α->Prop} {b n:Nat} {c:Array Value} {E:TypeId} {fz:Nat × Nat} {xs:List α} (hS:S b=some (.cells c E fz)) (hn:xs.length=n) (hm:n<=maxLen)
  (h:∀ i (h:i<xs.length),R (aH c i 1) xs[i]):RdSl S 1 R (.slice (some ⟨b,0,none⟩) n n) xs:=by
 subst hn
 exact ⟨_,_,rfl,Nat.le_refl _,hm,.inr ⟨b,0,c,E,fz,rfl,hS,fun i hi=>by rw [Nat.zero_add,Nat.mul_one]; exact h i hi⟩⟩
end
section
open Go

def signs:List ByteArray:=[⟨#[43]⟩,⟨#[45]⟩,⟨#[42]⟩,⟨#[47,47]⟩,⟨#[61]⟩,⟨#[92,61]⟩,⟨#[61,61]⟩,⟨#[60]⟩,⟨#[62]⟩,⟨#[61,60]⟩,⟨#[62,61]⟩,⟨#[61,58,61]⟩,⟨#[46]⟩,⟨#[91,93]⟩,⟨#[33]⟩]
def qP (b:UInt8):Bool:=decide (97<=b.toNat) && decide (b.toNat<=122)
def pT (s:ByteArray):Bool:=s.data.toList.all qP
def lS (s:ByteArray):Bool:=pT s && (decide (1<=s.size) && decide (s.size<=6))
def mn (s:ByteArray):Bool:=lS s || signs.any fun x=>decide (x=s)
def emptyB:ByteArray:=⟨#[]⟩
def eN (t:T):Bool:=
 if t.kind=1 then decide (0<=t.n) && (decide (t.n<=25) && (decide (t.name=emptyB) && decide (t.kids.length=0)))
 else if t.kind=2 then decide (-999<=t.n) && (decide (t.n<=999) && (decide (t.name=emptyB) && decide (t.kids.length=0)))
 else if t.kind=3 then decide (t.n=0) && (mn t.name && decide (t.kids.length<=4))
 else false
mutual
def eY:T->Int->Bool
 | .mk k n s ks,d=>if d<1 then false else eN (.mk k n s ks) && eU ks (d - 1)
def eU:List T->Int->Bool
 | [],_=>true
 | t::ts,d=>eY t d && eU ts d
end
mutual
def dF:T->Int
 | .mk _ _ _ ks=>1+dc ks
def dc:List T->Int
 | []=>0
 | t::ts=>dF t+dc ts
end
mutual
def jQ:T->Int->Int
 | .mk _ _ _ ks,most=>fS ks 1 most
def fS:List T->Int->Int->Int
 | [],n,_=>n
 | t::ts,n,most=>if n<=most then fS ts (n+jQ t (most - n)) most else n
end
def dd (t:T):Bool:=eY t 30 && decide (dF t<=120)

mutual
theorem jn:∀ t:T,1<=dF t
 | .mk _ _ _ ks=>by simp only [dF]; have:=dR ks; omega
theorem dR:∀ ts:List T,0<=dc ts
 | []=>by simp [dc]
 | t::ts=>by simp only [dc]; have:=jn t; have:=dR ts; omega
end
mutual
theorem xI:∀ (t:T) (most:Int),0<=most->(dF t<=most->jQ t most=dF t)/\(most<dF t->most<jQ t most/\jQ t most<=dF t)
 | .mk _ _ _ ks,most,h=>by
  simp only [dF,jQ]
  have:=EP ks 1 most h (by omega)
  exact this
theorem EP:∀ (ts:List T) (n most:Int),0<=most->1<=n->(n+dc ts<=most->fS ts n most=n+dc ts)/\(most<n+dc ts->most<fS ts n most/\fS ts n most<=n+dc ts)
 | [],n,most,h,h1=>by
  simp only [dc,fS]
  exact ⟨fun _=>by omega,fun _=>by omega⟩
 | t::ts,n,most,h,h1=>by
  simp only [dc,fS]
  have hp:=jn t
  have hl:=dR ts
  by_cases hn:n<=most
  ·rw [if_pos hn]
   have ht:=xI t (most - n) (by omega)
   by_cases hc:dF t<=most - n
   ·rw [ht.1 hc]
    have hr:=EP ts (n+dF t) most h (by omega)
    exact ⟨fun h2=>by rw [hr.1 (by omega)]; omega,fun h2=>by have:=hr.2 (by omega); omega⟩
   ·have h3:=ht.2 (by omega)
    have h4:fS ts (n+jQ t (most - n)) most=n+jQ t (most - n):=by
     cases ts with
     | nil=>rfl
     | cons u us=>rw [fS,if_neg (by omega)]
    rw [h4]
    exact ⟨fun h2=>by omega,fun h2=>by omega⟩
  ·rw [if_neg hn]
   exact ⟨fun h2=>by omega,fun h2=>by omega⟩
end
theorem MS (t:T):decide (jQ t 120<=120)=decide (dF t<=120):=by
 have h:=xI t 120 (by omega)
 by_cases hc:dF t<=120
 ·rw [h.1 hc]
 ·have:=h.2 (by omega)
  rw [decide_eq_false (by omega),decide_eq_false hc]

mutual
def fp:T->Int->Int->Bool × Int
 | .mk k n s ks,deep,c=>
  if 120<c+1 ∨ 30<deep then (false,c+1)
  else if k=1 ∨ k=2 then (eN (.mk k n s ks),c+1)
  else if k=3 then (if eN (.mk k n s ks) then lg ks (deep+1) (c+1) else (false,c+1))
  else (false,c+1)
def lg:List T->Int->Int->Bool × Int
 | [],_,c=>(true,c)
 | t::ts,deep,c=>if (fp t deep c).1 then lg ts deep (fp t deep c).2 else (false,(fp t deep c).2)
end
theorem OZ {k n:Int} {s:ByteArray} {ks:List T} (h:eN (.mk k n s ks)=true) (hk:k=1 ∨ k=2):ks=[]:=by
 unfold eN at h
 simp only [T.kind,T.n,T.name,T.kids] at h
 rcases hk with rfl|rfl <;> simp at h <;> exact h.2.2.2
theorem Ob {k n:Int} {s:ByteArray} {ks:List T} (h:eN (.mk k n s ks)=true):k=1 ∨ k=2 ∨ k=3:=by
 unfold eN at h
 simp only [T.kind,T.n,T.name,T.kids] at h
 by_cases h1:k=1
 ·exact .inl h1
 ·by_cases h2:k=2
  ·exact .inr (.inl h2)
  ·by_cases h3:k=3
   ·exact .inr (.inr h3)
   ·simp [h1,h2,h3] at h
mutual
theorem Bv:∀ (t:T) (deep c:Int),(fp t deep c).1=(eY t (31 - deep) && decide (c+dF t<=120))/\((fp t deep c).1=true->(fp t deep c).2=c+dF t)
 | .mk k n s ks,deep,c=>by
  have hl:=dR ks
  rw [show dF (T.mk k n s ks)=1+dc ks from rfl]
  simp only [fp,eY]
  by_cases h1:120<c+1 ∨ 30<deep
  ·rw [if_pos h1]
   refine ⟨?_,fun h=>by cases h⟩
   rcases h1 with h1|h1
   ·rw [decide_eq_false (show ¬ (c+(1+dc ks)<=120) by omega),Bool.and_false]
   ·rw [if_pos (show 31 - deep<1 by omega)]; rfl
  ·rw [if_neg h1,if_neg (show ¬ (31 - deep<1) by omega)]
   by_cases h2:k=1 ∨ k=2
   ·rw [if_pos h2]
    cases ho:eN (.mk k n s ks) with
    | false=>exact ⟨rfl,fun h=>by cases h⟩
    | true=>
     have:=OZ ho h2
     subst this
     rw [show dc []=0 from rfl]
     simp only [eU,Bool.true_and]
     exact ⟨by rw [decide_eq_true (show c+(1+0)<=120 by omega)],fun _=>by omega⟩
   ·rw [if_neg h2]
    by_cases h3:k=3
    ·rw [if_pos h3]
     cases ho:eN (.mk k n s ks) with
     | false=>exact ⟨rfl,fun h=>by cases h⟩
     | true=>
      simp only [if_true,Bool.true_and]
      have:=HK ks (deep+1) (c+1)
      rw [show 31 - (deep+1)=31 - deep - 1 by omega] at this
      rw [show c+(1+dc ks)=c+1+dc ks by omega]
      refine ⟨?_,this.2⟩
      rw [this.1]
      cases ks with
      | nil=>rw [show dc []=0 from rfl,decide_eq_true (show c+1+0<=120 by omega)]; rfl
      | cons t ts=>simp
    ·rw [if_neg h3]
     have ho:eN (.mk k n s ks)=false:=by
      rw [<- Bool.not_eq_true]
      intro h
      rcases Ob h with e|e|e
      ·exact h2 (.inl e)
      ·exact h2 (.inr e)
      ·exact h3 e
     rw [ho]
     exact ⟨rfl,fun h=>by cases h⟩
theorem HK:∀ (ts:List T) (deep c:Int),(lg ts deep c).1=(eU ts (31 - deep) && (ts.isEmpty || decide (c+dc ts<=120)))/\((lg ts deep c).1=true->(lg ts deep c).2=c+dc ts)
 | [],deep,c=>by simp [lg,eU,dc]
 | t::ts,deep,c=>by
  have ht:=Bv t deep c
  have hp:=dR ts
  rw [show dc (t::ts)=dF t+dc ts from rfl]
  simp only [lg,eU,List.isEmpty_cons,Bool.false_or]
  cases h1:(fp t deep c).1 with
  | false=>
   rw [h1] at ht
   have h2:=ht.1
   refine ⟨?_,fun h=>by cases h⟩
   simp only [Bool.false_eq_true,if_false]
   cases hs:eY t (31 - deep) with
   | false=>rfl
   | true=>
    rw [hs,Bool.true_and] at h2
    have:¬ (c+dF t<=120):=of_decide_eq_false h2.symm
    rw [decide_eq_false (show ¬ (c+(dF t+dc ts)<=120) by omega),Bool.and_false]
  | true=>
   rw [h1] at ht
   have h2:=ht.1
   have h3:=ht.2 rfl
   simp only [if_true]
   rw [h3]
   have hs:eY t (31 - deep)=true/\c+dF t<=120:=by
    have:=h2.symm
    simpa using this
   have hl:=HK ts deep (c+dF t)
   rw [show c+(dF t+dc ts)=c+dF t+dc ts by omega]
   refine ⟨?_,hl.2⟩
   rw [hl.1,hs.1,Bool.true_and]
   cases ts with
   | nil=>rw [show dc []=0 from rfl,decide_eq_true (show c+dF t+0<=120 by omega)]; rfl
   | cons u us=>simp
end
theorem Lf (t:T):(fp t 1 0).1=dd t:=by
 rw [(Bv t 1 0).1,dd]
 simp
end
section
open Go Go.RowKit
attribute [local irreducible] Run CondV aB aS

mutual
def wT:T->Nat
 | .mk _ _ s ks=>s.size+ks.length+wL ks
def wL:List T->Nat
 | []=>0
 | t::ts=>wT t+wL ts
end
theorem kH:∀ {ts:List T} {t:T},t∈ts->wT t<=wL ts
 | x::xs,t,h=>by
  simp only [wL]
  rcases List.mem_cons.1 h with rfl|h
  ·omega
  ·have:=kH h; omega

abbrev Pt {α:Type} (k:Nat) (R:bg->List Value->α->Prop) (S:ae) (xs:List α):Value->List Item->ae->Prop:=
 fun v I' S'=>S'=S/\∃ L,I'=bq L/\TrSl k R L v xs
abbrev DX (S:ae) (t:T):Value->List Item->ae->Prop:=fun v I' S'=>S'=S/\∃ cs L,v=.agg cs.toArray/\I'=bq L/\TrT L cs t

theorem Ay {ts:List T} (ih:∀ t∈ts,∀ (S:ae) (cs:List Value),RdT S cs t->wT t<=1048576->Tri Tryz.prog s9 [.agg cs.toArray] [] S (DX S t))
  {S:ae} {v:Value} (h:RdSl S 4 (RdT S) v ts) (hw:ts.length+wL ts<=1048576):Tri Tryz.prog pv [v] [] S (Pt 4 TrT S ts):=by
 intro w hI
 refine uV.2 ?_
 dsimp only[uV,aO]
 refine aD h xM ?_
 refine yp hI bm (by omega) (by omega) fun b c w' hc hI=>?_
 refine ⟨fun i w'=>∃ (k:Nat) (c:Array Value) (Ls:List bg),k<=ts.length/\i=.int .i64 k/\c.size=ts.length * 4/\Part 4 TrT c Ls (ts.take k)/\Inv w [] (bq ((b,.cells c ab)::Ls.flatten)) S w',
  fun i _=>ts.length - (intOf i).toNat,⟨0,c,[],Nat.zero_le _,rfl,hc,Part.nil _ _ _,hI⟩,?_⟩
 intro t4 _ _ _ _ _ _ _ _ _ _ _ _ _ _ w'
 rintro ⟨k,c,Ls,hk,rfl,hc,hp,hI⟩
 refine aD h xM ?_
 refine bA ?_
 refine aI (fun hki=>?_) (fun hki=>?_)
 ·have hk':k<ts.length:=by omega
  have htl:(ts.take k).length=k:=by simp; omega
  refine ch hI h xM Ji hk' (fun _ _=>RdT.length) fun cs hcs=>?_
  have hm:=List.getElem_mem hk'
  have hwm:=kH hm
  refine Run.call0 qR px hI (ih _ hm S cs hcs (by omega)) fun v' I' S' w'=>?_
  rintro ⟨rfl,cs',L,rfl,rfl,hT⟩ _ hI
  refine HD hI 0 (k:=4) (by rfl) af ac hk' (by omega) (by simp [Value.cells,hT.length]) (by simpa [Value.cells] using hT.one) fun w' hI=>?_
  refine bn (by omega) ?_
  refine ⟨⟨k+1,bx c (k * 4) cs',Ls++[L],hk',rfl,?_,?_,?_⟩,by simp [intOf]; omega⟩
  ·rw [gN _ _ _ (by rw [hT.length]; omega)]; exact hc
  ·have:=hp.snoc hT hT.length (by rw [htl]; omega)
   rw [htl] at this
   rw [List.take_succ_eq_append_getElem hk']
   exact this
  ·simp only [List.flatten_append,List.flatten_cons,List.flatten_nil,List.append_nil]
   simpa [bq,Value.cells] using hI
 ·have:k=ts.length:=by omega
  subst this
  rw [List.take_length] at hp
  exact ⟨_,_,_,rfl,hI,Ext.refl _ _ _,rfl,_,rfl,hp.sl (Nat.le_refl _) (by simp only [maxLen]; omega) (by omega)⟩

theorem oD:∀ (t:T) (S:ae) (cs:List Value),RdT S cs t->wT t<=1048576->Tri Tryz.prog s9 [.agg cs.toArray] [] S (DX S t):=by
 refine T.ind fun k n s ks ih S cs h hw=>?_
 intro w hI
 obtain ⟨kv,rfl,h1,h2,hs,hks⟩:=RdT.iff.1 h
 simp only [T.name,T.kids,T.kind,T.n] at h1 h2 hs hks ⊢
 simp only [wT] at hw
 refine yZ.2 ?_
 dsimp only[yZ,aO]
 refine be hI fun b1 w' hI=>?_
 refine aG hI aP fun b2 w' hI=>?_
 refine aG hI aP fun b3 w' hI=>?_
 refine ad hI 0 rfl Kw aw rfl ?_
 refine cG hI 2 rfl aE aw rfl rfl rfl fun w' hI=>?_
 refine ad hI 0 rfl J0 aw rfl ?_
 refine cG hI 2 rfl aK aw rfl rfl rfl fun w' hI=>?_
 refine ad hI 0 rfl Kr aJ rfl ?_
 refine cG hI 2 rfl aM aJ rfl rfl rfl fun w' hI=>?_
 refine ad hI 0 rfl Lv Ey rfl ?_
 refine Run.call0 nY oz hI (Ay ih hks (by omega)) fun v' I' S' w'=>?_
 rintro ⟨rfl,L,rfl,hT⟩ _ hI
 have hv:v'.cells=#[v']/\v'.oneCell'=true:=by obtain ⟨a,cap,rfl,_⟩:=hT; exact ⟨rfl,rfl⟩
 refine cG hI 2 rfl al ag rfl hv.1 hv.2 fun w' hI=>?_
 refine aq hI 2 ac rfl rfl ?_
 refine ao hI 1 rfl ac rfl rfl ?_ fun w' hI=>?_
 ·intro u hu
  have hu':u∈([.int .i64 k,.int .i64 n,.string s,v']:List Value):=hu
  simp at hu'
  rcases hu' with rfl|rfl|rfl|rfl <;> first|rfl|exact hv.2
 refine aW hI 1 ac rfl rfl ?_
 refine ⟨_,_,_,rfl,hI.sub (List.sublist_append_right [_,_,_] (bq L)),Ext.refl _ _ _,rfl,[.int .i64 k,.int .i64 n,.string s,v'],L,rfl,rfl,TrT.iff.2 ⟨v',rfl,h1,h2,hs,hT⟩⟩
theorem sT {ts:List T} {S:ae} {v:Value} (h:RdSl S 4 (RdT S) v ts) (hw:ts.length+wL ts<=1048576):Tri Tryz.prog pv [v] [] S (Pt 4 TrT S ts):=
 Ay (fun t _=>oD t) h hw

def wC (c:C):Nat:=wT c.head+c.body.length+wL c.body
def wP:List C->Nat
 | []=>0
 | c::cs=>wC c+wP cs
theorem JS:∀ {cs:List C} {c:C},c∈cs->wC c<=wP cs
 | x::xs,c,h=>by
  simp only [wP]
  rcases List.mem_cons.1 h with rfl|h
  ·omega
  ·have:=JS h; omega
abbrev QS (S:ae) (c:C):Value->List Item->ae->Prop:=fun v I' S'=>S'=S/\∃ cs L,v=.agg cs.toArray/\I'=bq L/\TrC L cs c
theorem qD {c:C} {S:ae} {cs:List Value} (h:RdC S cs c) (hw:wC c<=1048576):Tri Tryz.prog tQ [.agg cs.toArray] [] S (QS S c):=by
 intro w hI
 obtain ⟨hd,ks,rfl,h1,h2⟩:=h
 obtain ⟨kv,rfl,g1,g2,g3,g4⟩:=RdT.iff.1 h1
 unfold wC at hw
 refine r9.2 ?_
 dsimp only[r9,aO]
 refine be hI fun b1 w' hI=>?_
 refine aG hI dB fun b2 w' hI=>?_
 refine aG hI dB fun b3 w' hI=>?_
 refine ai E6 ?_
 refine b0 hI 0 [.int .i64 c.head.kind,.int .i64 c.head.n,.string c.head.name,kv] Ji rfl rfl ?_ ?_
 ·intro j v hj
  match j with
  | 0|1|2|3=>exact hj
  | j+4=>simp at hj
 refine Run.call0 qR px hI (oD _ S _ h1 (by omega)) fun v' I' S' w'=>?_
 rintro ⟨rfl,cs1,L1,rfl,rfl,hT1⟩ _ hI
 obtain ⟨kv1,rfl,e1,e2,e3,e4⟩:=TrT.iff.1 hT1
 have hv1:kv1.oneCell'=true:=by obtain ⟨a,cap,rfl,_⟩:=e4; rfl
 refine ai co ?_
 refine kP hI 2 rfl ac rfl rfl ?_ fun w' hI=>?_
 ·intro u hu
  simp [Value.cells] at hu
  rcases hu with rfl|rfl|rfl|rfl <;> first|rfl|exact hv1
 refine ad hI 0 rfl FS Ey rfl ?_
 refine Run.call0 nY oz hI (sT h2 (by omega)) fun v' I' S' w'=>?_
 rintro ⟨rfl,L2,rfl,hT2⟩ _ hI
 have hv:v'.cells=#[v']/\v'.oneCell'=true:=by obtain ⟨a,cap,rfl,_⟩:=hT2; exact ⟨rfl,rfl⟩
 refine cG hI 2 rfl bi ag rfl hv.1 hv.2 fun w' hI=>?_
 refine aq hI 2 bl rfl rfl ?_
 refine ao hI 1 rfl bl rfl rfl ?_ fun w' hI=>?_
 ·intro u hu
  have hu':u∈([.int .i64 c.head.kind,.int .i64 c.head.n,.string c.head.name,kv1,v']:List Value):=hu
  simp at hu'
  rcases hu' with rfl|rfl|rfl|rfl|rfl <;> first|rfl|exact hv1|exact hv.2
 refine aW hI 1 bl rfl rfl ?_
 have hI':=hI.sub (List.sublist_append_right [_,_,_] (bq L1++bq L2))
 rw [<- eJ] at hI'
 exact ⟨_,_,_,rfl,hI',Ext.refl _ _ _,rfl,[.int .i64 c.head.kind,.int .i64 c.head.n,.string c.head.name,kv1,v'],L1++L2,rfl,rfl,
  [.int .i64 c.head.kind,.int .i64 c.head.n,.string c.head.name,kv1],v',L1,L2,rfl,rfl,hT1,hT2⟩
theorem zz {p:List C} {S:ae} {v:Value} (h:RdSl S 5 (RdC S) v p) (hw:p.length+wP p<=1048576):Tri Tryz.prog sN [v] [] S (Pt 5 TrC S p):=by
 intro w hI
 refine pV.2 ?_
 dsimp only[pV,aO]
 refine aD h pq ?_
 refine yp hI eE (by omega) (by omega) fun b c w' hc hI=>?_
 refine ⟨fun i w'=>∃ (k:Nat) (c:Array Value) (Ls:List bg),k<=p.length/\i=.int .i64 k/\c.size=p.length * 5/\Part 5 TrC c Ls (p.take k)/\Inv w [] (bq ((b,.cells c av)::Ls.flatten)) S w',
  fun i _=>p.length - (intOf i).toNat,⟨0,c,[],Nat.zero_le _,rfl,hc,Part.nil _ _ _,hI⟩,?_⟩
 intro t4 _ _ _ _ _ _ _ _ _ _ _ _ _ _ w'
 rintro ⟨k,c,Ls,hk,rfl,hc,hp,hI⟩
 refine aD h pq ?_
 refine bA ?_
 refine aI (fun hki=>?_) (fun hki=>?_)
 ·have hk':k<p.length:=by omega
  have htl:(p.take k).length=k:=by simp; omega
  refine ch hI h pq Kf hk' (fun _ _=>RdC.length) fun cs hcs=>?_
  have hwm:=JS (List.getElem_mem hk')
  refine Run.call0 sV sX hI (qD hcs (by omega)) fun v' I' S' w'=>?_
  rintro ⟨rfl,cs',L,rfl,rfl,hT⟩ _ hI
  refine HD hI 0 (k:=5) (by rfl) bz bl hk' (by omega) (by simp [Value.cells,hT.length]) (by simpa [Value.cells] using hT.one) fun w' hI=>?_
  refine bn (by omega) ?_
  refine ⟨⟨k+1,bx c (k * 5) cs',Ls++[L],hk',rfl,?_,?_,?_⟩,by simp [intOf]; omega⟩
  ·rw [gN _ _ _ (by rw [hT.length]; omega)]; exact hc
  ·have:=hp.snoc hT hT.length (by rw [htl]; omega)
   rw [htl] at this
   rw [List.take_succ_eq_append_getElem hk']
   exact this
  ·simp only [List.flatten_append,List.flatten_cons,List.flatten_nil,List.append_nil]
   simpa [bq,Value.cells] using hI
 ·have:k=p.length:=by omega
  subst this
  rw [List.take_length] at hp
  exact ⟨_,_,_,rfl,hI,Ext.refl _ _ _,rfl,_,rfl,hp.sl (Nat.le_refl _) (by simp only [maxLen]; omega) (by omega)⟩
end
section
open Go Go.RowKit
attribute [local irreducible] Run CondV aB aS

theorem BI {α:Type} (p:α->Bool) (l:List α) (k:Nat) (h:k<l.length):(l.drop k).all p=(p l[k] && (l.drop (k+1)).all p):=by
 rw [List.drop_eq_getElem_cons h,List.all_cons]
theorem Iq {α:Type} (p:α->Bool) (l:List α) (k:Nat) (h:k<l.length):(l.drop k).any p=(p l[k] || (l.drop (k+1)).any p):=by
 rw [List.drop_eq_getElem_cons h,List.any_cons]
theorem nG (s:ByteArray):s.data.toList.length=s.size:=by rw [Array.length_toList]; rfl
theorem HN (s:ByteArray) (k:Nat) (h:k<s.size):s.data.toList[k]'(by rw [nG]; exact h)=s[k]:=rfl

theorem uU (s:ByteArray) (hs:s.size<=maxLen) (S:ae):Pure Tryz.prog JY [.string s] S (.bool (lS s)):=by
 intro w hI
 simp only [maxLen] at hs
 refine yN.2 ?_
 dsimp only[yN,aO]
 refine ⟨fun i w'=>∃ k:Nat,k<=s.size/\i=.int .i64 k/\(s.data.toList.drop k).all qP=pT s/\Inv w [] [] S w',fun i _=>s.size - (intOf i).toNat,⟨0,Nat.zero_le _,rfl,rfl,hI⟩,?_⟩
 intro t3 _ _ _ _ _ _ _ _ _ _ _ _ _ _ _ _ _ w'
 rintro ⟨k,hk,rfl,hrel,hI⟩
 refine gq aR ?_
 refine bA ?_
 refine aI (fun hki=>?_) (fun hki=>?_)
 ·have hk':k<s.size:=by omega
  have hstep:=BI qP s.data.toList k (by rw [nG]; exact hk')
  rw [HN s k hk'] at hstep
  refine ⟨fun t w'=>t=.bool (!qP s[k])/\Inv w [] [] S w',?_,?_⟩
  ·refine kZ aR hk' ?_
   refine bA ?_
   refine uK (fun h=>⟨?_,hI⟩) (fun h=>?_)
   ·have h:=of_decide_eq_true h
    rw [qP,decide_eq_false (show ¬ 97<=s[k].toNat by omega)]; rfl
   ·refine kZ aR hk' ?_
    refine dv ?_
    refine nn h ⟨?_,hI⟩
    have h:=of_decide_eq_false h
    rw [qP,decide_eq_true (show 97<=s[k].toNat by omega),Bool.true_and]
    by_cases h2:s[k].toNat<=122
    ·rw [decide_eq_true h2,decide_eq_false (by omega)]; rfl
    ·rw [decide_eq_false h2,decide_eq_true (by omega)]; rfl
  intro t _ _ _ _ _ _ _ _ _ w'
  rintro ⟨rfl,hI⟩
  refine az (fun h=>done hI ?_) (fun h=>?_)
  ·simp at h
   rw [lS,<- hrel,hstep,h]; rfl
  ·simp at h
   refine bn (by omega) ?_
   refine ⟨⟨k+1,hk',rfl,by rw [<- hrel,hstep,h]; rfl,hI⟩,by simp [intOf]; omega⟩
 ·have:k=s.size:=by omega
  subst this
  have hl:pT s=true:=by rw [<- hrel,<- nG,List.drop_length]; rfl
  refine gq aR ?_
  refine fY ?_
  refine iE (fun h=>?_) (fun h=>done hI ?_)
  ·refine gq aR ?_
   refine eK ?_
   refine gt h (done hI ?_)
   have h:=of_decide_eq_true h
   rw [lS,hl,decide_eq_true (show 1<=s.size by omega)]
   by_cases h2:s.size<=6
   ·rw [decide_eq_true h2,decide_eq_true (by omega)]; rfl
   ·rw [decide_eq_false h2,decide_eq_false (by omega)]; rfl
  ·have h:=of_decide_eq_false h
   rw [lS,hl,decide_eq_false (show ¬ 1<=s.size by omega)]; rfl

def xL:Array Value:=(signs.map Value.string).toArray
theorem JD {S:ae} {b:Nat} {E:TypeId} (hS:S b=some (.cells xL E)):RdSl S 1 mS (.slice (some ⟨b,0,none⟩) 15 15) signs:=by
 refine RdSl.ofCells hS rfl (by decide) ?_
 intro i hi
 have hi':i<15:=hi
 match i,hi' with
 | 0,_|1,_|2,_|3,_|4,_|5,_|6,_|7,_|8,_|9,_|10,_|11,_|12,_|13,_|14,_=>rfl
abbrev EB (S:ae):Value->List Item->ae->Prop:=fun v I' S'=>I'=[]/\Sle S S'/\RdSl S' 1 mS v signs
theorem Jf {S:ae} {b n:Nat} {o:Obj} (h:n<=b) (hs:Sle S (qv S b o)):Ext n [] S (qv S b o):=
 ⟨hs,fun c o' hc=>by
  simp only [qv] at hc
  split at hc
  ·rename_i e; subst e; exact .inr (.inr h)
  ·exact .inl hc⟩
theorem sL (S:ae):Tri Tryz.prog HH [] [] S (EB S):=by
 intro w hI
 refine uk.2 ?_
 dsimp only[uk,r7]
 refine qz (v:=fun b=>.slice (some ⟨b,0,none⟩) 15 15) (o:=.cells xL jF) hI (by kernel_rfl) fun b w' hI=>?_
 have hnew:w.heap.size<=b:=by
  rcases hI.new b (by simp [bE,Item.foot]) with h|h
  ·simp [bE] at h
  ·exact h
 obtain ⟨h1,h2⟩:=Inv.publishLast (L:=[]) hI
 exact ⟨_,_,_,rfl,h1,Jf hnew h2,rfl,h2,JD (by simp [qv]; rfl)⟩
theorem JH (s:ByteArray) {xs:List ByteArray} {S:ae} {v:Value} (h:RdSl S 1 mS v xs):Pure Tryz.prog M0 [v,.string s] S (.bool (xs.any fun x=>decide (x=s))):=by
 intro w hI
 have hlen:=h.le
 simp only [maxLen] at hlen
 refine CI.2 ?_
 dsimp only[CI,aX]
 refine ⟨fun i w'=>∃ k:Nat,k<=xs.length/\i=.int .i64 k/\(xs.drop k).any (fun x=>decide (x=s))=xs.any (fun x=>decide (x=s))/\Inv w [] [] S w',fun i _=>xs.length - (intOf i).toNat,⟨0,Nat.zero_le _,rfl,rfl,hI⟩,?_⟩
 intro t3 _ _ _ _ _ _ _ _ _ _ _ _ _ w'
 rintro ⟨k,hk,rfl,hrel,hI⟩
 refine aD h cg ?_
 refine bA ?_
 refine aI (fun hki=>?_) (fun hki=>?_)
 ·have hk':k<xs.length:=by omega
  have hstep:=Iq (fun x=>decide (x=s)) xs k hk'
  refine fy hI h cg aJ hk' (fun cs hcs=>hcs) ?_
  refine bf ?_
  refine az (fun he=>done hI ?_) (fun he=>?_)
  ·rw [<- hrel,hstep,he]; rfl
  ·refine bn (by omega) ?_
   exact ⟨⟨k+1,hk',rfl,by rw [<- hrel,hstep,he]; rfl,hI⟩,by simp [intOf]; omega⟩
 ·have:k=xs.length:=by omega
  subst this
  exact done hI (by rw [<- hrel,List.drop_length]; rfl)
theorem gg {w w':World} {L:List Item} {S S':ae} {r r':Value} (h:Inv w [] L S' w') (hs:Sle S S') (e:r'=r):Ending.returned r'=.returned r/\Inv w [] [] S w':=⟨by rw [e],h.nil.less hs⟩
theorem xT (s:ByteArray) (hs:s.size<=maxLen) (S:ae):Pure Tryz.prog C1 [.string s] S (.bool (mn s)):=by
 intro w hI
 refine qB.2 ?_
 dsimp only[qB,aO]
 refine Run.callPure yo zn hI (uU s hs S) fun w' hI=>?_
 refine uK (fun h=>done hI ?_) (fun h=>?_)
 ·rw [mn,h]; rfl
 ·refine Run.call0 uZ vI hI (sL S) fun v' I' S' w'=>?_
  rintro ⟨rfl,_,hr⟩ hle hI
  refine Run.callPure JK KT hI (JH s hr) fun w' hI=>?_
  refine nn h (gg hI hle ?_)
  rw [mn,h]; rfl

theorem H1 {t:T} {S:ae} {cs:List Value} (h:RdT S cs t):Pure Tryz.prog MY [.agg cs.toArray] S (.bool (eN t)):=by
 intro w hI
 obtain ⟨kv,rfl,_,_,hs,hks⟩:=RdT.iff.1 h
 obtain ⟨k,n,s,ks⟩:=t
 simp only [T.name,T.kids,T.kind,T.n] at hs hks ⊢
 refine A4.2 ?_
 dsimp only[A4,aO]
 refine be hI fun b1 w' hI=>?_
 refine ad hI 0 rfl aE aw rfl ?_
 refine aY ?_
 refine aI (fun hk=>?_) (fun hk=>?_)
 ·have ho:eN (.mk k n s ks)=(decide (0<=n) && (decide (n<=25) && (decide (s=emptyB) && decide (ks.length=0)))):=by
   rw [eN]; exact if_pos hk
  refine ad hI 0 rfl aK aw rfl ?_
  refine fY ?_
  refine iE (fun h1=>?_) (fun h1=>?_)
  ·refine ad hI 0 rfl aK aw rfl ?_
   refine eK ?_
   refine gt h1 ?_
   refine iE (fun h2=>?_) (fun h2=>?_)
   ·refine ad hI 0 rfl aM aJ rfl ?_
    refine bf ?_
    refine gt h2 ?_
    refine iE (fun h3=>?_) (fun h3=>done hI ?_)
    ·refine ad hI 0 rfl al ag rfl ?_
     refine aD hks af ?_
     refine aY ?_
     refine gt h3 (done hI ?_)
     rw [ho,h1,h2,show decide (s=emptyB)=true from h3]
     simp
    ·rw [ho,h1,h2,show decide (s=emptyB)=false from h3]; rfl
   ·refine od (done hI ?_)
    rw [ho,h1,h2]; rfl
  ·refine od (od (done hI ?_))
   rw [ho,h1]; rfl
 refine aY ?_
 refine aI (fun hk2=>?_) (fun hk2=>?_)
 ·have ho:eN (.mk k n s ks)=(decide (-999<=n) && (decide (n<=999) && (decide (s=emptyB) && decide (ks.length=0)))):=by
   rw [eN]; exact (if_neg hk).trans (if_pos hk2)
  refine ad hI 0 rfl aK aw rfl ?_
  refine fY ?_
  refine iE (fun h1=>?_) (fun h1=>?_)
  ·refine ad hI 0 rfl aK aw rfl ?_
   refine eK ?_
   refine gt h1 ?_
   refine iE (fun h2=>?_) (fun h2=>?_)
   ·refine ad hI 0 rfl aM aJ rfl ?_
    refine bf ?_
    refine gt h2 ?_
    refine iE (fun h3=>?_) (fun h3=>done hI ?_)
    ·refine ad hI 0 rfl al ag rfl ?_
     refine aD hks af ?_
     refine aY ?_
     refine gt h3 (done hI ?_)
     rw [ho,h1,h2,show decide (s=emptyB)=true from h3]
     simp
    ·rw [ho,h1,h2,show decide (s=emptyB)=false from h3]; rfl
   ·refine od (done hI ?_)
    rw [ho,h1,h2]; rfl
  ·refine od (od (done hI ?_))
   rw [ho,h1]; rfl
 refine aY ?_
 refine aI (fun hk3=>?_) (fun hk3=>done hI ?_)
 ·have ho:eN (.mk k n s ks)=(decide (n=0) && (mn s && decide (ks.length<=4))):=by
   rw [eN]; exact (if_neg hk).trans ((if_neg hk2).trans (if_pos hk3))
  refine ad hI 0 rfl aK aw rfl ?_
  refine aY ?_
  refine iE (fun h1=>?_) (fun h1=>?_)
  ·refine ad hI 0 rfl aM aJ rfl ?_
   refine Run.callPure BK AX hI (xT s hs S) fun w' hI=>?_
   refine gt h1 ?_
   refine iE (fun h2=>?_) (fun h2=>done hI ?_)
   ·refine ad hI 0 rfl al ag rfl ?_
    refine aD hks af ?_
    refine eK ?_
    refine gt h2 (done hI ?_)
    rw [ho,h1,h2]
    simp
    omega
   ·rw [ho,h1,h2]; rfl
  ·refine od (done hI ?_)
   rw [ho,h1]; rfl
 ·rw [eN]
  exact congrArg Value.bool ((if_neg hk).trans ((if_neg hk2).trans (if_neg hk3))).symm

theorem DB:∀ (t:T) (S:ae) (cs:List Value) (d:Int),RdT S cs t->-1<=d->d<=1000->Pure Tryz.prog Ih [.agg cs.toArray,.int .i64 d] S (.bool (eY t d)):=by
 refine T.ind fun k n s ks ih S cs d h h0 h1=>?_
 intro w hI
 have hcs:=h
 obtain ⟨kv,rfl,_,_,hs,hks⟩:=RdT.iff.1 h
 simp only [T.name,T.kids,T.kind,T.n] at hs hks ⊢
 have hlen:=hks.le
 simp only [maxLen] at hlen
 refine vg.2 ?_
 dsimp only[vg,aX]
 refine be hI fun b1 w' hI=>?_
 refine ⟨fun t w'=>t=.bool (decide (d<1) || !eN (.mk k n s ks))/\Inv w [] [.blk b1 (.cells #[.int .i64 k,.int .i64 n,.string s,kv] ab)] S w',?_,?_⟩
 ·refine bA ?_
  refine uK (fun h=>⟨by rw [h]; rfl,hI⟩) (fun h=>?_)
  refine aq hI 0 ac rfl rfl ?_
  refine Run.callPure K6 Li hI (H1 hcs) fun w' hI=>?_
  refine bM ?_
  exact nn h ⟨by rw [h]; rfl,hI⟩
 intro t _ _ _ _ _ _ w'
 rintro ⟨rfl,hI⟩
 refine az (fun hb=>done hI ?_) (fun hb=>?_)
 ·rw [eY]
  by_cases hd:d<1
  ·rw [if_pos hd]
  ·rw [if_neg hd]
   simp [hd] at hb
   rw [hb]; rfl
 have hd:¬ d<1:=fun h=>by simp [h] at hb
 have ho:eN (.mk k n s ks)=true:=by simp [hd] at hb; exact hb
 refine ⟨fun i w'=>∃ j:Nat,j<=ks.length/\i=.int .i64 j/\eU (ks.drop j) (d - 1)=eU ks (d - 1)/\Inv w [] [.blk b1 (.cells #[.int .i64 k,.int .i64 n,.string s,kv] ab)] S w',
  fun i _=>ks.length - (intOf i).toNat,⟨0,Nat.zero_le _,rfl,rfl,hI⟩,?_⟩
 intro t5 _ _ _ _ _ _ _ _ _ _ _ _ _ _ _ _ _ w'
 rintro ⟨j,hj,rfl,hrel,hI⟩
 refine ad hI 0 rfl al ag rfl ?_
 refine aD hks af ?_
 refine bA ?_
 refine aI (fun hji=>?_) (fun hji=>?_)
 ·have hj':j<ks.length:=by omega
  have hstep:eU (ks.drop j) (d - 1)=(eY ks[j] (d - 1) && eU (ks.drop (j+1)) (d - 1)):=by
   rw [List.drop_eq_getElem_cons hj',eU]
  refine ad hI 0 rfl al ag rfl ?_
  refine ch hI hks af ac hj' (fun _ _=>RdT.length) fun cs' hcs'=>?_
  refine ib (by omega) ?_
  refine Run.callPure uX uY hI (ih _ (List.getElem_mem hj') S cs' (d - 1) hcs' (by omega) (by omega)) fun w' hI=>?_
  refine bM ?_
  refine az (fun hne=>done hI ?_) (fun he=>?_)
  ·simp at hne
   rw [eY,if_neg hd,ho,<- hrel,hstep,hne]; rfl
  ·simp at he
   refine bn (by omega) ?_
   exact ⟨⟨j+1,hj',rfl,by rw [<- hrel,hstep,he]; rfl,hI⟩,by simp [intOf]; omega⟩
 ·have:j=ks.length:=by omega
  subst this
  refine done hI ?_
  rw [eY,if_neg hd,ho,<- hrel,List.drop_length,eU]; rfl

theorem s6:∀ (ts:List T) (j:Nat) (h:j<ts.length),dc (ts.drop j)=dF ts[j]+dc (ts.drop (j+1)):=by
 intro ts j h
 rw [List.drop_eq_getElem_cons h,dc]
theorem Dt:∀ (t:T) (S:ae) (cs:List Value) (most:Int),RdT S cs t->0<=most->most<=1000->dF t<=4611686018427387904->Pure Tryz.prog Hy [.agg cs.toArray,.int .i64 most] S (.int .i64 (jQ t most)):=by
 refine T.ind fun k n s ks ih S cs most h h0 h1 hc=>?_
 intro w hI
 obtain ⟨kv,rfl,_,_,hs,hks⟩:=RdT.iff.1 h
 simp only [T.name,T.kids,T.kind,T.n] at hs hks ⊢
 have hlen:=hks.le
 simp only [maxLen] at hlen
 rw [show dF (T.mk k n s ks)=1+dc ks from rfl] at hc
 refine ww.2 ?_
 dsimp only[ww,aX]
 refine be hI fun b1 w' hI=>?_
 refine ⟨fun i m w'=>∃ (j:Nat) (c:Int),j<=ks.length/\i=.int .i64 j/\m=.int .i64 c/\1<=c/\c+dc (ks.drop j)<=1+dc ks/\fS (ks.drop j) c most=fS ks 1 most/\Inv w [] [.blk b1 (.cells #[.int .i64 k,.int .i64 n,.string s,kv] ab)] S w',
  fun i _ _=>ks.length - (intOf i).toNat,⟨0,1,Nat.zero_le _,rfl,rfl,by omega,by rw [List.drop_zero]; omega,rfl,hI⟩,?_⟩
 intro t6 _ _ t5 _ _ _ _ _ _ _ _ _ _ _ _ _ _ _ _ _ _ _ _ _ w'
 rintro ⟨j,c,hj,rfl,rfl,hc1,hc2,hrel,hI⟩
 refine ⟨fun t w'=>t=.bool (decide (j<ks.length) && decide (c<=most))/\Inv w [] [.blk b1 (.cells #[.int .i64 k,.int .i64 n,.string s,kv] ab)] S w',?_,?_⟩
 ·refine ad hI 0 rfl al ag rfl ?_
  refine aD hks af ?_
  refine bA ?_
  refine iE (fun h=>?_) (fun h=>⟨?_,hI⟩)
  ·refine eK ?_
   refine gt h ⟨?_,hI⟩
   rw [decide_eq_true (show j<ks.length from by have:=of_decide_eq_true h; omega)]; rfl
  ·rw [decide_eq_false (show ¬ j<ks.length from by have:=of_decide_eq_false h; omega)]; rfl
 intro t _ _ _ _ _ _ _ _ _ w'
 rintro ⟨rfl,hI⟩
 refine az (fun hb=>?_) (fun hb=>done hI ?_)
 ·simp at hb
  obtain ⟨hj',hcm⟩:=hb
  have hsp:=s6 ks j hj'
  have hstep:fS (ks.drop j) c most=fS (ks.drop (j+1)) (c+jQ ks[j] (most - c)) most:=by
   rw [List.drop_eq_getElem_cons hj',fS,if_pos hcm]
  have hct:=xI ks[j] (most - c) (by omega)
  have hp:=jn ks[j]
  have hlp:=dR (ks.drop (j+1))
  have hcle:1<=jQ ks[j] (most - c)/\jQ ks[j] (most - c)<=dF ks[j]:=by
   by_cases hq:dF ks[j]<=most - c
   ·rw [hct.1 hq]; omega
   ·have:=hct.2 (by omega); omega
  refine ad hI 0 rfl al ag rfl ?_
  refine ch hI hks af ac hj' (fun _ _=>RdT.length) fun cs' hcs'=>?_
  refine ib (by omega) ?_
  refine Run.callPure vC uC hI (ih _ (List.getElem_mem hj') S cs' (most - c) hcs' (by omega) (by omega) (by omega)) fun w' hI=>?_
  refine bn (by omega) ?_
  refine bn (by omega) ?_
  exact ⟨⟨j+1,_,hj',rfl,rfl,by omega,by omega,by rw [<- hrel,hstep],hI⟩,by simp [intOf]; omega⟩
 ·show Value.int .i64 c=Value.int .i64 (fS ks 1 most)
  rw [<- hrel]
  by_cases hj':j<ks.length
  ·simp [hj'] at hb
   rw [List.drop_eq_getElem_cons hj',fS,if_neg (by omega)]
  ·rw [List.drop_eq_nil_of_le (by omega),fS]

mutual
theorem N0:∀ t:T,dF t<=1+(wT t:Int)
 | .mk k n s ks=>by
  rw [show dF (T.mk k n s ks)=1+dc ks from rfl,wT]
  have:=Gs ks
  omega
theorem Gs:∀ ts:List T,dc ts<=ts.length+(wL ts:Int)
 | []=>by simp [dc,wL]
 | t::ts=>by
  rw [show dc (t::ts)=dF t+dc ts from rfl,wL,List.length_cons]
  have:=N0 t; have:=Gs ts
  omega
end

theorem fi {t:T} {S:ae} {cs:List Value} (h:RdT S cs t) (hc:dF t<=4611686018427387904):Pure Tryz.prog DL [.agg cs.toArray] S (.bool (dd t)):=by
 intro w hI
 have hl:=h.length
 refine qw.2 ?_
 dsimp only[qw,aO]
 refine be hI fun b1 w' hI=>?_
 refine aq hI 0 ac rfl (by simpa [Value.cells] using hl) ?_
 refine Run.callPure uX uY hI (DB t S cs 30 h (by omega) (by omega)) fun w' hI=>?_
 refine iE (fun h1=>?_) (fun h1=>done hI ?_)
 ·refine aq hI 0 ac rfl (by simpa [Value.cells] using hl) ?_
  refine Run.callPure vC uC hI (Dt t S cs 120 h (by omega) (by omega) hc) fun w' hI=>?_
  refine eK ?_
  refine gt h1 (done hI ?_)
  rw [dd,h1,MS]; rfl
 ·rw [dd,h1]; rfl
end
section
open Go Go.RowKit
attribute [local irreducible] Run CondV aB aS

def cZ {α σ:Type} (step:σ->α->Bool × σ):σ->List α->Nat->Int × σ
 | st,[],_=>(-1,st)
 | st,x::xs,k=>if (step st x).1 then ((k:Int),(step st x).2) else cZ step (step st x).2 xs (k+1)
def lz {α σ:Type} (step:σ->α->Bool × σ):σ->List α->Bool × σ
 | st,[]=>(false,st)
 | st,x::xs=>if (step st x).1 then (true,(step st x).2) else lz step (step st x).2 xs
theorem kN {α σ:Type} (step:σ->α->Bool × σ):∀ (xs:List α) (st:σ) (k:Nat),decide (0<=(cZ step st xs k).1)=(lz step st xs).1/\(cZ step st xs k).2=(lz step st xs).2
 | [],st,k=>by simp [cZ,lz]
 | x::xs,st,k=>by
  by_cases h:(step st x).1=true
  ·simp [cZ,lz,h]
  ·simpa [cZ,lz,h] using kN step xs (step st x).2 (k+1)
theorem qV {α:Type} (p:α->Bool):∀ xs:List α,lz (σ:=Unit) (fun _ x=>(p x,())) () xs=(xs.any p,())
 | []=>rfl
 | x::xs=>by
  simp only [lz,List.any_cons]
  cases h:p x with
  | true=>rfl
  | false=>rw [qV p xs]; rfl
abbrev fv (f:FuncId) (cap:List Value):Value:=.func (.func f) #[] cap.toArray
section
variable {P:Program} {w w0:World} {X:List Nat} {A I:List Item} {S:ae} {K:Value->World->Prop}
theorem EU {P:Program} {f:FuncId} {fn:Func} {cap args:List Value} {w:World} (hf:P.funcs[f]?=some fn) (hn:(fn.name == "runtime.NumGoroutine" || fn.body.isNone)=false) :
  (eA (fv f cap) args).run P w=.ok (.enter f (args++cap).toArray) w:=by
 simp only [Bool.or_eq_false_iff] at hn
 have h1:¬ fn.name = "runtime.NumGoroutine" := by simpa using hn.1
 have h2:¬ fn.body=none:=fun e=>by rw [e] at hn; simp at hn
 simp [eA,Deferred.ofValue,invoke,callFunc,hf,h1,h2]
theorem Run.callV {f:FuncId} {fn:Func} {cap args:List Value} {Post:Value->List Item->ae->Prop}
  (hf:P.funcs[f]?=some fn) (hn:(fn.name == "runtime.NumGoroutine" || fn.body.isNone)=false) (h:Inv w0 X (A++I) S w) (hc:Tri P f (args++cap) I S Post)
  (hk:∀ v I' S' w',Post v I' S'->Sle S S'->Inv w0 X (A++I') S' w'->K v w'):Run P (eA (fv f cap) args) w K:=by
 unfold Run
 rw [EU hf hn]
 refine (hc w (h.sub (List.sublist_append_right A I)).begin).mono ?_
 rintro e w' ⟨v,I',S',rfl,hI,hE,hP⟩
 exact hk v I' S' w' hP hE.1 (Inv.step h hI hE.2)
end
structure Cb (P:Program) (f:FuncId) (fn:Func) {α σ:Type} (cap:List Value) (S:ae) (It:σ->List Item) (ok:σ->Prop) (step:σ->α->Bool × σ) (R:Value->α->Prop) (xs:List α):Prop where
 hf:P.funcs[f]?=some fn
 hn:(fn.name == "runtime.NumGoroutine" || fn.body.isNone)=false
 keep:∀ st x,x∈xs->ok st->(step st x).1=false->ok (step st x).2
 call:∀ st x v,x∈xs->ok st->R v x->Tri P f (v::cap) (It st) S fun r I' S'=>r=.bool (step st x).1/\I'=It (step st x).2/\S'=S
theorem Cb.pure {P:Program} {f:FuncId} {fn:Func} {α:Type} {cap:List Value} {S:ae} {p:α->Bool} {R:Value->α->Prop} {xs:List α} (L:List Item) (hf:P.funcs[f]?=some fn) (hn:(fn.name == "runtime.NumGoroutine" || fn.body.isNone)=false)
  (h:∀ x v,x∈xs->R v x->Tri P f (v::cap) L S fun r I' S'=>r=.bool (p x)/\I'=L/\S'=S):Cb P f fn cap S (fun _:Unit=>L) (fun _=>True) (fun _ x=>(p x,())) R xs:=
 ⟨hf,hn,fun _ _ _ _ _=>trivial,fun _ x v hx _ hR=>h x v hx hR⟩

theorem wI {σ:Type} {f:FuncId} {fn:Func} {cap:List Value} {S:ae} {It:σ->List Item} {ok:σ->Prop} {step:σ->T->Bool × σ} {xs:List T} {v:Value}
  (hcb:Cb Tryz.prog f fn cap S It ok step (fun v x=>∃ cs,v=.agg cs.toArray/\RdT S cs x) xs) (h:RdSl S 4 (RdT S) v xs) {st:σ} (hok:ok st) :
  Tri Tryz.prog kT [v,fv f cap] (It st) S fun r I' S'=>r=.int .i64 (cZ step st xs 0).1/\I'=It (cZ step st xs 0).2/\S'=S:=by
 intro w hI
 have hlen:=h.le
 simp only [maxLen] at hlen
 refine eQ.2 ?_
 dsimp only[eQ,aX]
 refine aD h af ?_
 refine ⟨fun i w'=>∃ (k:Nat) (st':σ),k<=xs.length/\i=.int .i64 k/\ok st'/\cZ step st' (xs.drop k) k=cZ step st xs 0/\Inv w (bE (It st)) (It st') S w',fun i _=>xs.length - (intOf i).toNat,
  ⟨0,st,Nat.zero_le _,rfl,hok,rfl,hI⟩,?_⟩
 intro t8 _ _ _ _ _ _ _ _ _ _ _ _ w'
 rintro ⟨k,st',hk,rfl,hok',hrel,hI⟩
 refine bA ?_
 refine aI (fun hki=>?_) (fun hki=>?_)
 ·have hk':k<xs.length:=by omega
  have hm:=List.getElem_mem hk'
  have hstep:cZ step st' (xs.drop k) k=if (step st' xs[k]).1 then ((k:Int),(step st' xs[k]).2) else cZ step (step st' xs[k]).2 (xs.drop (k+1)) (k+1):=by
   rw [List.drop_eq_getElem_cons hk',cZ]
  refine ch hI h af ac hk' (fun _ _=>RdT.length) fun cs hcs=>?_
  refine Run.callV (A:=[]) (args:=[.agg cs.toArray]) hcb.hf hcb.hn (by simpa using hI) (hcb.call st' _ _ hm hok' ⟨cs,rfl,hcs⟩) fun v' I' S' w'=>?_
  rintro ⟨rfl,rfl,rfl⟩ _ hI
  refine az (fun hb=>?_) (fun hb=>?_)
  ·rw [if_pos hb] at hstep
   refine ⟨_,_,_,rfl,by simpa using hI,Ext.refl _ _ _,?_,?_,rfl⟩
   ·rw [<- hrel,hstep]
   ·rw [<- hrel,hstep]
  ·refine bn (by omega) ?_
   rw [hb] at hstep
   refine ⟨⟨k+1,_,hk',rfl,hcb.keep st' _ hm hok' hb,?_,by simpa using hI⟩,by simp [intOf]; omega⟩
   rw [<- hrel,hstep]
   rfl
 ·have:k=xs.length:=by omega
  subst this
  rw [List.drop_length,cZ] at hrel
  exact ⟨_,_,_,rfl,hI,Ext.refl _ _ _,by rw [<- hrel],by rw [<- hrel],rfl⟩
theorem jt {σ:Type} {f:FuncId} {fn:Func} {cap:List Value} {S:ae} {It:σ->List Item} {ok:σ->Prop} {step:σ->T->Bool × σ} {xs:List T} {v:Value}
  (hcb:Cb Tryz.prog f fn cap S It ok step (fun v x=>∃ cs,v=.agg cs.toArray/\RdT S cs x) xs) (h:RdSl S 4 (RdT S) v xs) {st:σ} (hok:ok st) :
  Tri Tryz.prog iG [v,fv f cap] (It st) S fun r I' S'=>r=.bool (lz step st xs).1/\I'=It (lz step st xs).2/\S'=S:=by
 intro w hI
 refine eh.2 ?_
 dsimp only[eh,aX]
 refine Run.call (A:=[]) jX jV (by simpa using hI) (wI hcb h hok) fun v' I' S' w'=>?_
 rintro ⟨rfl,rfl,rfl⟩ _ hI
 refine fY ?_
 have he:=kN step xs st 0
 exact ⟨_,_,_,rfl,by simpa using hI,Ext.refl _ _ _,by rw [he.1],by rw [he.2],rfl⟩
theorem rp {σ:Type} {f:FuncId} {fn:Func} {cap:List Value} {S:ae} {It:σ->List Item} {ok:σ->Prop} {step:σ->C->Bool × σ} {xs:List C} {v:Value}
  (hcb:Cb Tryz.prog f fn cap S It ok step (fun v x=>∃ cs,v=.agg cs.toArray/\RdC S cs x) xs) (h:RdSl S 5 (RdC S) v xs) {st:σ} (hok:ok st) :
  Tri Tryz.prog qC [v,fv f cap] (It st) S fun r I' S'=>r=.int .i64 (cZ step st xs 0).1/\I'=It (cZ step st xs 0).2/\S'=S:=by
 intro w hI
 have hlen:=h.le
 simp only [maxLen] at hlen
 refine iI.2 ?_
 dsimp only[iI,aX]
 refine aD h bz ?_
 refine ⟨fun i w'=>∃ (k:Nat) (st':σ),k<=xs.length/\i=.int .i64 k/\ok st'/\cZ step st' (xs.drop k) k=cZ step st xs 0/\Inv w (bE (It st)) (It st') S w',fun i _=>xs.length - (intOf i).toNat,
  ⟨0,st,Nat.zero_le _,rfl,hok,rfl,hI⟩,?_⟩
 intro t8 _ _ _ _ _ _ _ _ _ _ _ _ w'
 rintro ⟨k,st',hk,rfl,hok',hrel,hI⟩
 refine bA ?_
 refine aI (fun hki=>?_) (fun hki=>?_)
 ·have hk':k<xs.length:=by omega
  have hm:=List.getElem_mem hk'
  have hstep:cZ step st' (xs.drop k) k=if (step st' xs[k]).1 then ((k:Int),(step st' xs[k]).2) else cZ step (step st' xs[k]).2 (xs.drop (k+1)) (k+1):=by
   rw [List.drop_eq_getElem_cons hk',cZ]
  refine ch hI h bz bl hk' (fun _ _=>RdC.length) fun cs hcs=>?_
  refine Run.callV (A:=[]) (args:=[.agg cs.toArray]) hcb.hf hcb.hn (by simpa using hI) (hcb.call st' _ _ hm hok' ⟨cs,rfl,hcs⟩) fun v' I' S' w'=>?_
  rintro ⟨rfl,rfl,rfl⟩ _ hI
  refine az (fun hb=>?_) (fun hb=>?_)
  ·rw [if_pos hb] at hstep
   refine ⟨_,_,_,rfl,by simpa using hI,Ext.refl _ _ _,?_,?_,rfl⟩
   ·rw [<- hrel,hstep]
   ·rw [<- hrel,hstep]
  ·refine bn (by omega) ?_
   rw [hb] at hstep
   refine ⟨⟨k+1,_,hk',rfl,hcb.keep st' _ hm hok' hb,?_,by simpa using hI⟩,by simp [intOf]; omega⟩
   rw [<- hrel,hstep]
   rfl
 ·have:k=xs.length:=by omega
  subst this
  rw [List.drop_length,cZ] at hrel
  exact ⟨_,_,_,rfl,hI,Ext.refl _ _ _,by rw [<- hrel],by rw [<- hrel],rfl⟩
theorem oh {σ:Type} {f:FuncId} {fn:Func} {cap:List Value} {S:ae} {It:σ->List Item} {ok:σ->Prop} {step:σ->C->Bool × σ} {xs:List C} {v:Value}
  (hcb:Cb Tryz.prog f fn cap S It ok step (fun v x=>∃ cs,v=.agg cs.toArray/\RdC S cs x) xs) (h:RdSl S 5 (RdC S) v xs) {st:σ} (hok:ok st) :
  Tri Tryz.prog nw [v,fv f cap] (It st) S fun r I' S'=>r=.bool (lz step st xs).1/\I'=It (lz step st xs).2/\S'=S:=by
 intro w hI
 refine gO.2 ?_
 dsimp only[gO,aX]
 refine Run.call (A:=[]) pg ph (by simpa using hI) (rp hcb h hok) fun v' I' S' w'=>?_
 rintro ⟨rfl,rfl,rfl⟩ _ hI
 refine fY ?_
 have he:=kN step xs st 0
 exact ⟨_,_,_,rfl,by simpa using hI,Ext.refl _ _ _,by rw [he.1],by rw [he.2],rfl⟩
end
section
open Go Go.RowKit
attribute [local irreducible] Run CondV aB aS

theorem gw (n low high:Int) (S:ae):Pure Tryz.prog Lq [.int .i64 n,.int .i64 low,.int .i64 high] S (.bool (decide (low<=n) && decide (n<=high))):=by
 intro w hI
 refine yK.2 ?_
 dsimp only[yK,cX]
 refine eK ?_
 refine iE (fun h=>?_) (fun h=>done hI (by rw [h]; rfl))
 refine eK ?_
 exact gt h (done hI (by rw [h]; rfl))
theorem oW (s:ByteArray) (hs:s.size<=maxLen) (S:ae):Pure Tryz.prog Dc [.string s] S (.bool (lS s)):=by
 intro w hI
 simp only [maxLen] at hs
 refine p5.2 ?_
 dsimp only[p5,aO]
 refine gq aR ?_
 refine ⟨fun i w'=>∃ k:Nat,k<=s.size/\i=.int .i64 k/\(s.data.toList.drop k).all qP=pT s/\Inv w [] [] S w',fun i _=>s.size - (intOf i).toNat,⟨0,Nat.zero_le _,rfl,rfl,hI⟩,?_⟩
 intro t6 _ _ _ _ _ _ _ _ _ _ _ _ _ _ _ w'
 rintro ⟨k,hk,rfl,hrel,hI⟩
 refine bA ?_
 refine aI (fun hki=>?_) (fun hki=>?_)
 ·have hk':k<s.size:=by omega
  have hstep:=BI qP s.data.toList k (by rw [nG]; exact hk')
  rw [HN s k hk'] at hstep
  refine ⟨fun t w'=>t=.bool (!qP s[k])/\Inv w [] [] S w',?_,?_⟩
  ·refine kZ aR hk' ?_
   refine bA ?_
   refine uK (fun h=>⟨?_,hI⟩) (fun h=>?_)
   ·have h:=of_decide_eq_true h
    rw [qP,decide_eq_false (show ¬ 97<=s[k].toNat by omega)]; rfl
   ·refine kZ aR hk' ?_
    refine dv ?_
    refine nn h ⟨?_,hI⟩
    have h:=of_decide_eq_false h
    rw [qP,decide_eq_true (show 97<=s[k].toNat by omega),Bool.true_and]
    by_cases h2:s[k].toNat<=122
    ·rw [decide_eq_true h2,decide_eq_false (by omega)]; rfl
    ·rw [decide_eq_false h2,decide_eq_true (by omega)]; rfl
  intro t _ _ _ _ _ _ _ _ _ w'
  rintro ⟨rfl,hI⟩
  refine az (fun h=>done hI ?_) (fun h=>?_)
  ·simp at h
   rw [lS,<- hrel,hstep,h]; rfl
  ·simp at h
   refine bn (by omega) ?_
   refine ⟨⟨k+1,hk',rfl,by rw [<- hrel,hstep,h]; rfl,hI⟩,by simp [intOf]; omega⟩
 ·have:k=s.size:=by omega
  subst this
  have hl:pT s=true:=by rw [<- hrel,<- nG,List.drop_length]; rfl
  refine gq aR ?_
  refine Run.callPure g7 ia hI (gw _ _ _ S) fun w' hI=>done hI ?_
  rw [lS,hl,Bool.true_and]
  congr 1
  rw [Bool.eq_iff_iff]
  simp
  omega
theorem CL (S:ae):Tri Tryz.prog Hq [] [] S (EB S):=by
 intro w hI
 refine uT.2 ?_
 dsimp only[uT,r7]
 refine qz (v:=fun b=>.slice (some ⟨b,0,none⟩) 15 15) (o:=.cells xL jF) hI (by kernel_rfl) fun b w' hI=>?_
 have hnew:w.heap.size<=b:=by
  rcases hI.new b (by simp [bE,Item.foot]) with h|h
  ·simp [bE] at h
  ·exact h
 obtain ⟨h1,h2⟩:=Inv.publishLast (L:=[]) hI
 exact ⟨_,_,_,rfl,h1,Jf hnew h2,rfl,h2,JD (by simp [qv]; rfl)⟩
theorem s8 (s:ByteArray) {xs:List ByteArray} {S:ae} {v:Value} (h:RdSl S 1 mS v xs) :
  Pure Tryz.prog xe [v,.string s] S (.int .i64 (cZ (σ:=Unit) (fun _ x=>(decide (x=s),())) () xs 0).1):=by
 intro w hI
 have hlen:=h.le
 simp only [maxLen] at hlen
 refine lQ.2 ?_
 dsimp only[lQ,aX]
 refine aD h cg ?_
 refine ⟨fun i w'=>∃ k:Nat,k<=xs.length/\i=.int .i64 k/\cZ (σ:=Unit) (fun _ x=>(decide (x=s),())) () (xs.drop k) k=cZ (σ:=Unit) (fun _ x=>(decide (x=s),())) () xs 0/\Inv w [] [] S w',
  fun i _=>xs.length - (intOf i).toNat,⟨0,Nat.zero_le _,rfl,rfl,hI⟩,?_⟩
 intro t8 _ _ _ _ _ _ _ _ _ _ _ _ w'
 rintro ⟨k,hk,rfl,hrel,hI⟩
 refine bA ?_
 refine aI (fun hki=>?_) (fun hki=>?_)
 ·have hk':k<xs.length:=by omega
  rw [List.drop_eq_getElem_cons hk',cZ] at hrel
  refine fy hI h cg aJ hk' (fun cs hcs=>hcs) ?_
  refine bf ?_
  refine aI (fun he=>done hI ?_) (fun he=>?_)
  ·rw [<- hrel,if_pos (by simpa using he.symm)]
  ·refine bn (by omega) ?_
   rw [if_neg (by simpa using fun e=>he e.symm)] at hrel
   exact ⟨⟨k+1,hk',rfl,hrel,hI⟩,by simp [intOf]; omega⟩
 ·have:k=xs.length:=by omega
  subst this
  rw [List.drop_length,cZ] at hrel
  exact done hI (by rw [<- hrel])
theorem fM (s:ByteArray) {xs:List ByteArray} {S:ae} {v:Value} (h:RdSl S 1 mS v xs) :
  Pure Tryz.prog rt [v,.string s] S (.bool (xs.any fun x=>decide (x=s))):=by
 intro w hI
 refine jD.2 ?_
 dsimp only[jD,aX]
 refine Run.callPure vE uM hI (s8 s h) fun w' hI=>?_
 refine fY (done hI ?_)
 rw [(kN _ xs () 0).1,qV]
theorem xu (s:ByteArray) (hs:s.size<=maxLen) (S:ae):Pure Tryz.prog C2 [.string s] S (.bool (mn s)):=by
 intro w hI
 refine qk.2 ?_
 dsimp only[qk,aO]
 refine Run.callPure pZ pk hI (oW s hs S) fun w' hI=>?_
 refine uK (fun h=>done hI ?_) (fun h=>?_)
 ·rw [mn,h]; rfl
 ·refine Run.call0 E0 Gn hI (CL S) fun v' I' S' w'=>?_
  rintro ⟨rfl,_,hr⟩ hle hI
  refine Run.callPure gr fU hI (fM s hr) fun w' hI=>?_
  refine nn h (gg hI hle ?_)
  rw [mn,h]; rfl

abbrev eX (b:Nat) (c:Int):Item:=.blk b (.cells #[.int .i64 c] cD)
abbrev mZ (bc:Nat) (S:ae) (r:Bool × Int):Value->List Item->ae->Prop:=fun v I' S'=>v=.bool r.1/\I'=[eX bc r.2]/\S'=S
theorem Jy:∀ (t:T) (deep c:Int),c<=120->(fp t deep c).1=true->c<(fp t deep c).2/\(fp t deep c).2<=120:=by
 intro t deep c hc h
 have:=Bv t deep c
 rw [this.2 h]
 have h1:=this.1
 rw [h] at h1
 have h2:=h1.symm
 simp at h2
 have:=jn t
 omega
theorem D6 (deep:Int):∀ (ks:List T) (c:Int),lz (fun c t=>(!(fp t deep c).1,(fp t deep c).2)) c ks=(!(lg ks deep c).1,(lg ks deep c).2)
 | [],c=>by simp [lz,lg]
 | t::ts,c=>by
  by_cases h:(fp t deep c).1=true
  ·simp [lz,lg,h,D6 deep ts]
  ·simp [lz,lg,h]

theorem Lo:∀ (t:T) (S:ae) (cs:List Value) (deep c:Int) (bc:Nat),RdT S cs t->0<=deep->deep<=31->0<=c->c<=120->
  Tri Tryz.prog Ow [.agg cs.toArray,.int .i64 deep,.pointer (some ⟨bc,0,none⟩)] [eX bc c] S (mZ bc S (fp t deep c)):=by
 refine T.ind fun k n s ks ih S cs deep c bc h hd0 hd1 hc0 hc1=>?_
 intro w hI
 obtain ⟨kv,rfl,_,_,hs,hks⟩:=RdT.iff.1 h
 simp only [T.name,T.kids,T.kind,T.n] at hs hks ⊢
 have hend:∀ {L:List Item} {w':World} {v:Value} (r:Bool × Int),Inv w (bE [eX bc c]) (eX bc r.2::L) S w'->v=.bool r.1->r=fp (.mk k n s ks) deep c->
   ∃ v' I' S',Ending.returned v=.returned v'/\Inv w (bE [eX bc c]) I' S' w'/\Ext w.heap.size (bE [eX bc c]) S S'/\mZ bc S (fp (.mk k n s ks) deep c) v' I' S':=by
  intro L w' v r h1 h2 h3
  subst h3
  exact ⟨_,_,_,rfl,h1.pick [true],Ext.refl _ _ _,h2,rfl,rfl⟩
 refine D0.2 ?_
 dsimp only[D0,cX]
 refine be hI fun b3 w' hI=>?_
 refine be hI fun b4 w' hI=>?_
 refine be hI fun b5 w' hI=>?_
 refine aA hI 3 rb rfl rfl ?_
 refine bD ?_
 refine aA hI 0 aw rfl rfl ?_
 refine bn (by omega) ?_
 refine bD ?_
 refine dK hI 0 (n:=1) rfl (by rw [aw]; rfl) rfl (Nat.le_of_ble_eq_true rfl) (by simp [Value.cells]; rfl) fun w' hI=>?_
 refine ⟨fun t w'=>t=.bool (decide (120<c+1 ∨ 30<deep))/\Inv w (bE [eX bc c]) [eX bc (c+1),.blk b3 (.cells #[.int .i64 k,.int .i64 n,.string s,kv] ab),.blk b4 (.cells #[.int .i64 deep] cD),.blk b5 (.cells #[.pointer (some ⟨bc,0,none⟩)] gI)] S w',?_,?_⟩
 ·refine aA hI 3 rb rfl rfl ?_
  refine bD ?_
  refine aA hI 0 aw rfl rfl ?_
  refine dv ?_
  refine uK (fun h=>⟨?_,hI⟩) (fun h=>?_)
  ·have h:=of_decide_eq_true h
   rw [decide_eq_true (show 120<c+1 ∨ 30<deep from .inl h)]
  ·refine aA hI 2 aw rfl rfl ?_
   refine dv ?_
   refine nn h ⟨?_,hI⟩
   have h:=of_decide_eq_false h
   congr 1
   rw [Bool.eq_iff_iff]
   simp
   omega
 intro t _ _ _ _ _ _ _ w'
 rintro ⟨rfl,hI⟩
 refine aI (fun hb=>?_) (fun hb=>?_)
 ·exact hend (false,c+1) hI rfl (by rw [fp,if_pos hb])
 have hsc:∀ r,(if k=1 ∨ k=2 then (eN (.mk k n s ks),c+1) else if k=3 then (if eN (.mk k n s ks) then lg ks (deep+1) (c+1) else (false,c+1)) else (false,c+1))=r->r=fp (.mk k n s ks) deep c:=by
  intro r hr
  rw [fp,if_neg hb,hr]
 refine ad hI 1 rfl aE aw rfl ?_
 refine aY ?_
 refine aI (fun hk=>?_) (fun hk=>?_)
 ·have ho:eN (.mk k n s ks)=(decide (0<=n) && (decide (n<=25) && (decide (s=emptyB) && decide (ks.length=0)))):=by
   rw [eN]; exact if_pos hk
  have hfin:∀ {w':World} {b:Bool},Inv w (bE [eX bc c]) [eX bc (c+1),.blk b3 (.cells #[.int .i64 k,.int .i64 n,.string s,kv] ab),.blk b4 (.cells #[.int .i64 deep] cD),.blk b5 (.cells #[.pointer (some ⟨bc,0,none⟩)] gI)] S w'->
    b=eN (.mk k n s ks)->∃ v' I' S',Ending.returned (.bool b)=.returned v'/\Inv w (bE [eX bc c]) I' S' w'/\Ext w.heap.size (bE [eX bc c]) S S'/\mZ bc S (fp (.mk k n s ks) deep c) v' I' S':=
   fun hI hb=>hend (_,c+1) hI (by rw [hb]) (hsc _ (if_pos (.inl hk)))
  refine ad hI 1 rfl aK aw rfl ?_
  refine Run.callPure g7 ia hI (gw _ _ _ S) fun w' hI=>?_
  refine iE (fun h2=>?_) (fun h2=>?_)
  ·have h2':=h2
   rw [Bool.and_eq_true] at h2'
   refine ad hI 1 rfl aM aJ rfl ?_
   refine bf ?_
   refine gt h2 ?_
   refine iE (fun h3=>?_) (fun h3=>hfin hI ?_)
   ·refine ad hI 1 rfl al ag rfl ?_
    refine aD hks af ?_
    refine aY ?_
    refine gt h3 (hfin hI ?_)
    rw [ho,h2'.1,h2'.2,show decide (s=emptyB)=true from h3]
    simp
   ·rw [ho,h2'.1,h2'.2,show decide (s=emptyB)=false from h3]; rfl
  ·refine od (hfin hI ?_)
   rw [ho,<- Bool.and_assoc,h2]; rfl
 refine aY ?_
 refine aI (fun hk2=>?_) (fun hk2=>?_)
 ·have ho:eN (.mk k n s ks)=(decide (-999<=n) && (decide (n<=999) && (decide (s=emptyB) && decide (ks.length=0)))):=by
   rw [eN]; exact (if_neg hk).trans (if_pos hk2)
  have hfin:∀ {w':World} {b:Bool},Inv w (bE [eX bc c]) [eX bc (c+1),.blk b3 (.cells #[.int .i64 k,.int .i64 n,.string s,kv] ab),.blk b4 (.cells #[.int .i64 deep] cD),.blk b5 (.cells #[.pointer (some ⟨bc,0,none⟩)] gI)] S w'->
    b=eN (.mk k n s ks)->∃ v' I' S',Ending.returned (.bool b)=.returned v'/\Inv w (bE [eX bc c]) I' S' w'/\Ext w.heap.size (bE [eX bc c]) S S'/\mZ bc S (fp (.mk k n s ks) deep c) v' I' S':=
   fun hI hb=>hend (_,c+1) hI (by rw [hb]) (hsc _ (if_pos (.inr hk2)))
  refine ad hI 1 rfl aK aw rfl ?_
  refine Run.callPure g7 ia hI (gw _ _ _ S) fun w' hI=>?_
  refine iE (fun h2=>?_) (fun h2=>?_)
  ·have h2':=h2
   rw [Bool.and_eq_true] at h2'
   refine ad hI 1 rfl aM aJ rfl ?_
   refine bf ?_
   refine gt h2 ?_
   refine iE (fun h3=>?_) (fun h3=>hfin hI ?_)
   ·refine ad hI 1 rfl al ag rfl ?_
    refine aD hks af ?_
    refine aY ?_
    refine gt h3 (hfin hI ?_)
    rw [ho,h2'.1,h2'.2,show decide (s=emptyB)=true from h3]
    simp
   ·rw [ho,h2'.1,h2'.2,show decide (s=emptyB)=false from h3]; rfl
  ·refine od (hfin hI ?_)
   rw [ho,<- Bool.and_assoc,h2]; rfl
 refine aY ?_
 have hk12:¬ (k=1 ∨ k=2):=fun h=>h.elim hk hk2
 refine aI (fun hk3=>?_) (fun hk3=>?_)
 ·have ho:eN (.mk k n s ks)=(decide (n=0) && (mn s && decide (ks.length<=4))):=by
   rw [eN]; exact (if_neg hk).trans ((if_neg hk2).trans (if_pos hk3))
  refine ⟨fun t w'=>t=.bool (!eN (.mk k n s ks))/\Inv w (bE [eX bc c]) [eX bc (c+1),.blk b3 (.cells #[.int .i64 k,.int .i64 n,.string s,kv] ab),.blk b4 (.cells #[.int .i64 deep] cD),.blk b5 (.cells #[.pointer (some ⟨bc,0,none⟩)] gI)] S w',?_,?_⟩
  ·refine ad hI 1 rfl aK aw rfl ?_
   refine cE ?_
   refine uK (fun h1=>?_) (fun h1=>?_)
   ·have h1':decide (n=0)=false:=by simpa using h1
    refine RA ⟨?_,hI⟩
    rw [ho,h1']; rfl
   ·have h1':decide (n=0)=true:=by simpa using h1
    refine ad hI 1 rfl aM aJ rfl ?_
    refine Run.callPure Bl AL hI (xu s hs S) fun w' hI=>?_
    refine bM ?_
    refine nn h1 ?_
    refine uK (fun h2=>⟨?_,hI⟩) (fun h2=>?_)
    ·have h2':mn s=false:=by simpa using h2
     rw [ho,h1',h2']; rfl
    ·have h2':mn s=true:=by simpa using h2
     refine ad hI 1 rfl al ag rfl ?_
     refine aD hks af ?_
     refine dv ?_
     refine nn h2 ⟨?_,hI⟩
     rw [ho,h1',h2',Bool.true_and,Bool.true_and]
     congr 1
     rw [Bool.eq_iff_iff]
     simp
     omega
  intro t _ _ _ _ _ _ _ _ _ _ _ _ _ _ w'
  rintro ⟨rfl,hI⟩
  refine az (fun hb1=>?_) (fun hb1=>?_)
  ·have hb1':eN (.mk k n s ks)=false:=by simpa using hb1
   exact hend (false,c+1) hI rfl (hsc _ (by rw [if_neg hk12,if_pos hk3,hb1']; rfl))
  ·have hb1':eN (.mk k n s ks)=true:=by simpa using hb1
   refine ad hI 1 rfl al ag rfl ?_
   refine sZ ?_
   have hcb:Cb Tryz.prog KO Tryz.f142 [.pointer (some ⟨b4,0,none⟩),.pointer (some ⟨b5,0,none⟩)] S
     (fun c:Int=>[eX bc c,.blk b4 (.cells #[.int .i64 deep] cD),.blk b5 (.cells #[.pointer (some ⟨bc,0,none⟩)] gI)]) (fun c=>0<=c/\c<=120)
     (fun c t=>(!(fp t (deep+1) c).1,(fp t (deep+1) c).2)) (fun v x=>∃ cs,v=.agg cs.toArray/\RdT S cs x) ks:=by
    refine ⟨IY,Iv,fun st x _ hst hf=>?_,fun st x v hx hst=>?_⟩
    ·have:=Jy x (deep+1) st hst.2 (by simpa using hf)
     omega
    ·rintro ⟨cs,rfl,hcs⟩ w1 hI
     have hl:=hcs.length
     refine za.2 ?_
     dsimp only[za,cX]
     refine be hI fun b w' hI=>?_
     refine aq hI 3 ac rfl (by simpa [Value.cells] using hl) ?_
     refine aA hI 1 aw rfl rfl ?_
     refine bn (by omega) ?_
     refine aA hI 2 rb rfl rfl ?_
     have hI:=hI.perm (M:=[.blk b4 (.cells #[.int .i64 deep] cD),.blk b5 (.cells #[.pointer (some ⟨bc,0,none⟩)] gI),.blk b (.cells (Value.agg cs.toArray).cells ab)]++[eX bc st])
      (List.perm_append_comm (l₁:=[_,_,_]) (l₂:=[eX bc st]))
     refine Run.call Er Ew hI (ih x hx S cs (deep+1) st bc hcs (by omega) (by omega) hst.1 hst.2) fun v' I' S' w'=>?_
     rintro ⟨rfl,rfl,rfl⟩ _ hI
     refine bM ?_
     have hI:=(hI.perm (M:=[eX bc (fp x (deep+1) st).2]++[.blk b4 (.cells #[.int .i64 deep] cD),.blk b5 (.cells #[.pointer (some ⟨bc,0,none⟩)] gI),.blk b (.cells (Value.agg cs.toArray).cells ab)])
      List.perm_append_comm).pick [true,true,true,false]
     exact ⟨_,_,_,rfl,hI,Ext.refl _ _ _,rfl,rfl,rfl⟩
   have hI:=hI.perm (M:=[.blk b3 (.cells #[.int .i64 k,.int .i64 n,.string s,kv] ab)]++[eX bc (c+1),.blk b4 (.cells #[.int .i64 deep] cD),.blk b5 (.cells #[.pointer (some ⟨bc,0,none⟩)] gI)]) (List.Perm.swap _ _ _)
   refine Run.call ft fF hI (jt hcb hks ⟨by omega,by omega⟩) fun v' I' S' w'=>?_
   rintro ⟨rfl,rfl,rfl⟩ _ hI
   refine bM ?_
   rw [D6] at hI ⊢
   have hI:=hI.perm (M:=[eX bc (lg ks (deep+1) (c+1)).2,.blk b3 (.cells #[.int .i64 k,.int .i64 n,.string s,kv] ab),.blk b4 (.cells #[.int .i64 deep] cD),.blk b5 (.cells #[.pointer (some ⟨bc,0,none⟩)] gI)]) (List.Perm.swap _ _ _)
   refine hend (lg ks (deep+1) (c+1)) hI (by simp) (hsc _ (by rw [if_neg hk12,if_pos hk3,hb1']; rfl))
 ·exact hend (false,c+1) hI rfl (hsc _ (by rw [if_neg hk12,if_neg hk3]))

theorem i7 {t:T} {S:ae} {cs:List Value} (h:RdT S cs t):Pure Tryz.prog Dn [.agg cs.toArray] S (.bool (dd t)):=by
 intro w hI
 have hl:=h.length
 refine pU.2 ?_
 dsimp only[pU,aO]
 refine be hI fun b1 w' hI=>?_
 refine aG hI OM fun b2 w' hI=>?_
 refine dK hI 1 (n:=1) rfl (by rw [aw]; rfl) rfl (Nat.le_of_ble_eq_true rfl) (by simp [Value.cells]; rfl) fun w' hI=>?_
 refine aq hI 0 ac rfl (by simpa [Value.cells] using hl) ?_
 refine Run.call (A:=[_]) (I:=[eX b2 0]) Er Ew hI (Lo t S cs 1 0 b2 h (by omega) (by omega) (by omega) (by omega)) fun v' I' S' w'=>?_
 rintro ⟨rfl,rfl,rfl⟩ _ hI
 exact done hI (by rw [Lf])
end
end Go.Proofs.YtfcbhfjomgopbaaGreat
