/- Data that a function has made for itself: trees of blocks that nobody else knows. -/
import Derived.Test.YtfcbhfjomgopbaaGreatZcS
import Derived.Test.YtfcbhfjomgopbaaGreatZcF
import Derived.Test.YtfcbhfjomgopbaaGreatZch1
namespace Go.Proofs.YtfcbhfjomgopbaaGreat
open Go Go.RowKit
attribute [local irreducible] Run CondV ak bg

abbrev bo:=List (Nat × Obj)
def dP (L:bo):List Item:=L.map fun p=>.blk p.1 p.2
theorem sc (L M:bo):dP (L++M)=dP L++dP M:=by simp [dP]
def Ins (S:ar) (L:bo):Prop:=∀ p∈L,S p.1=some p.2
theorem Ins.mono {S S':ar} {L:bo} (h:Ins S L) (hs:Sle S S'):Ins S' L:=fun p hp=>hs _ _ (h p hp)
theorem Ins.left {S:ar} {L M:bo} (h:Ins S (L++M)):Ins S L:=fun p hp=>h p (List.mem_append_left _ hp)
theorem Ins.right {S:ar} {L M:bo} (h:Ins S (L++M)):Ins S M:=fun p hp=>h p (List.mem_append_right _ hp)
theorem gH {L:bo} {b:Nat}:b∈bv (dP L)↔∃ p∈L,p.1=b:=by
 simp only [bv,dP,List.mem_flatMap,List.mem_map]
 constructor
 ·rintro ⟨it,⟨p,hp,rfl⟩,hb⟩
  simp only [Item.foot,List.mem_singleton] at hb
  exact ⟨p,hp,hb.symm⟩
 ·rintro ⟨p,hp,rfl⟩
  exact ⟨_,⟨p,hp,rfl⟩,by simp [Item.foot]⟩

theorem Inv.publishAll {w0 w:World} {X:List Nat} {A:List Item}:∀ (L:bo) {S:ar},Inv w0 X (A++dP L) S w->
  ∃ S',Inv w0 X A S' w/\Sle S S'/\Ins S' L/\∀ b o,S' b=some o->S b=some o ∨ b∈bv (dP L)
 | [],S,h=>⟨S,by simpa [dP] using h,Sle.refl S,by intro p hp; simp at hp,fun b o hb=>.inl hb⟩
 | p::L,S,h=>by
  have hi:(A++dP (p::L))[A.length]?=some (.blk p.1 p.2):=by simp [dP]
  obtain ⟨h1,h2⟩:=h.publish hi
  have he:(A++dP (p::L)).eraseIdx A.length=A++dP L:=by simp [dP,List.eraseIdx_append_of_length_le]
  rw [he] at h1
  obtain ⟨S',h3,h4,h5,h6⟩:=publishAll L h1
  refine ⟨S',h3,h2.trans h4,fun q hq=>?_,fun b o hb=>?_⟩
  ·rcases List.mem_cons.1 hq with rfl|hq
   ·exact h4 _ _ (by simp [mi])
   ·exact h5 q hq
  ·rcases h6 b o hb with h7|h7
   ·simp only [mi] at h7
    split at h7
    ·rename_i e; right; rw [gH]; exact ⟨p,List.mem_cons_self ..,e.symm⟩
    ·exact .inl h7
   ·right
    obtain ⟨q,hq,e⟩:=gH.1 h7
    exact gH.2 ⟨q,List.mem_cons_of_mem _ hq,e⟩

/- a slice of elements, its array and all behind it being the function's own -/
def TrSl {α:Type} (k:Nat) (R:bo->List Value->α->Prop) (L:bo) (v:Value) (xs:List α):Prop:=
 ∃ a cap,v=.slice a xs.length cap/\xs.length<=cap/\cap<=maxLen/\
  ((xs=[]/\L=[]) ∨ ∃ b c E,∃ Ls:List bo,a=some ⟨b,0,none⟩/\L=(b,.cells c E)::Ls.flatten/\Ls.length=xs.length/\cap * k<=c.size/\
   ∀ i (h:i<xs.length) (h':i<Ls.length),R Ls[i] (ba c (i * k) k) xs[i])
inductive TrT:bo->List Value->T->Prop
 | nil {k n:Int} {s:ByteArray} {a:Option Addr} {cap:Nat} (hk:inI k) (hn:inI n) (hs:s.size<=maxLen) (hc:cap<=maxLen) :
   TrT [] [.int .i64 k,.int .i64 n,.string s,.slice a 0 cap] (.mk k n s [])
 | cons {k n:Int} {s:ByteArray} {kids:List T} {b cap:Nat} {c:Array Value} {E:TypeId} {Ls:List bo} (hk:inI k) (hn:inI n) (hs:s.size<=maxLen) (hl:kids.length<=cap) (hc:cap<=maxLen)
   (hLs:Ls.length=kids.length) (hsz:cap * 4<=c.size) (h:∀ i (h:i<kids.length) (h':i<Ls.length),TrT Ls[i] (ba c (i * 4) 4) kids[i]) :
   TrT ((b,.cells c E)::Ls.flatten) [.int .i64 k,.int .i64 n,.string s,.slice (some ⟨b,0,none⟩) kids.length cap] (.mk k n s kids)
theorem TrT.iff {L:bo} {cs:List Value} {t:T}:TrT L cs t ↔
  ∃ ks,cs=[.int .i64 t.kind,.int .i64 t.n,.string t.name,ks]/\inI t.kind/\inI t.n/\t.name.size<=maxLen/\TrSl 4 TrT L ks t.kids:=by
 constructor
 ·intro h
  cases h with
  | nil hk hn hs hc=>exact ⟨_,rfl,hk,hn,hs,_,_,rfl,Nat.zero_le _,hc,.inl ⟨rfl,rfl⟩⟩
  | cons hk hn hs hl hc hLs hsz h=>exact ⟨_,rfl,hk,hn,hs,_,_,rfl,hl,hc,.inr ⟨_,_,_,_,rfl,rfl,hLs,hsz,h⟩⟩
 ·obtain ⟨k,n,s,kids⟩:=t
  rintro ⟨ks,rfl,hk,hn,hs,a,cap,rfl,hl,hc,h⟩
  rcases h with ⟨h,rfl⟩|⟨b,c,E,Ls,rfl,rfl,hLs,hsz,h⟩
  ·simp only [T.kids] at h
   subst h
   exact TrT.nil hk hn hs hc
  ·exact TrT.cons hk hn hs hl hc hLs hsz h
theorem TrT.length {L:bo} {cs:List Value} {t:T} (h:TrT L cs t):cs.length=4:=by
 obtain ⟨ks,rfl,_⟩:=TrT.iff.1 h; rfl
theorem TrT.one {L:bo} {cs:List Value} {t:T} (h:TrT L cs t):∀ u∈cs,u.oneCell'=true:=by
 obtain ⟨ks,rfl,_,_,_,a,cap,rfl,_⟩:=TrT.iff.1 h
 intro u hu
 simp at hu
 rcases hu with rfl|rfl|rfl|rfl <;> rfl
theorem RdT.one {S:ar} {cs:List Value} {t:T} (h:RdT S cs t):∀ u∈cs,u.oneCell'=true:=by
 obtain ⟨ks,rfl,_,_,_,a,cap,rfl,_⟩:=RdT.iff.1 h
 intro u hu
 simp at hu
 rcases hu with rfl|rfl|rfl|rfl <;> rfl
theorem ug {S:ar} {Ls:List bo} (h:Ins S Ls.flatten) {i:Nat} (hi:i<Ls.length):Ins S Ls[i]:=
 fun p hp=>h p (List.mem_flatten.2 ⟨_,List.getElem_mem hi,hp⟩)
theorem TrSl.rd {α:Type} {S:ar} {k:Nat} {R:bo->List Value->α->Prop} {R':List Value->α->Prop} {L:bo} {v:Value} {xs:List α} (h:TrSl k R L v xs) (hi:Ins S L)
  (hR:∀ L cs x,Ins S L->R L cs x->R' cs x):RdSl S k R' v xs:=by
 obtain ⟨a,cap,rfl,hl,hc,h⟩:=h
 refine ⟨a,cap,rfl,hl,hc,?_⟩
 rcases h with ⟨h,_⟩|⟨b,c,E,Ls,rfl,rfl,hLs,hsz,h⟩
 ·exact .inl h
 ·refine .inr ⟨b,0,c,E,(0,0),rfl,hi _ (List.mem_cons_self ..),fun i h1=>?_⟩
  rw [Nat.zero_add]
  exact hR _ _ _ (ug (fun p hp=>hi p (List.mem_cons_of_mem _ hp)) (by omega)) (h i h1 (by omega))
theorem TrT.rd {S:ar} {L:bo} {cs:List Value} {t:T} (h:TrT L cs t) (hi:Ins S L):RdT S cs t:=by
 induction h with
 | nil hk hn hs hc=>exact RdT.nil hk hn hs hc
 | cons hk hn hs hl hc hLs hsz h ih=>
  refine RdT.cons hk hn hs hl hc (hi _ (List.mem_cons_self ..)) (o:=0) fun i h1=>?_
  rw [Nat.zero_add]
  exact ih i h1 (by omega) (ug (fun p hp=>hi p (List.mem_cons_of_mem _ hp)) (by omega))
def TrC (L:bo) (cs:List Value) (c:C):Prop:=∃ hd ks L1 L2,cs=hd++[ks]/\L=L1++L2/\TrT L1 hd c.head/\TrSl 4 TrT L2 ks c.body
theorem TrC.rd {S:ar} {L:bo} {cs:List Value} {c:C} (h:TrC L cs c) (hi:Ins S L):RdC S cs c:=by
 obtain ⟨hd,ks,L1,L2,rfl,rfl,h1,h2⟩:=h
 exact ⟨hd,ks,rfl,h1.rd hi.left,h2.rd hi.right fun _ _ _ hi h=>h.rd hi⟩
theorem TrC.length {L:bo} {cs:List Value} {c:C} (h:TrC L cs c):cs.length=5:=by
 obtain ⟨hd,ks,L1,L2,rfl,rfl,h1,h2⟩:=h; simp [h1.length]
theorem TrC.one {L:bo} {cs:List Value} {c:C} (h:TrC L cs c):∀ u∈cs,u.oneCell'=true:=by
 obtain ⟨hd,ks,L1,L2,rfl,rfl,h1,a,cap,rfl,_⟩:=h
 intro u hu
 rcases List.mem_append.1 hu with hu|hu
 ·exact h1.one u hu
 ·simp at hu; subst hu; rfl

section
variable {P:Program} {w w0:World} {X:List Nat} {L:List Item} {S:ar} {K:Value->World->Prop}
theorem Run.call0 {f:FuncId} {fn:Func} {args:List Value} {Post:Value->List Item->ar->Prop}
  (hf:P.funcs[f]?=some fn) (hn:(fn.name == "runtime.NumGoroutine" || fn.body.isNone)=false) (h:Inv w0 X L S w) (hc:Tri P f args [] S Post)
  (hk:∀ v I' S' w',Post v I' S'->Sle S S'->Inv w0 X (L++I') S' w'->K v w'):Run P (aN (.func (.func f) #[] #[]) args) w K:=
 Run.call (A:=L) (I:=[]) hf hn (by simpa using h) hc hk
/- x.f = v, x a struct in a block of the function's own -/
theorem dF {T U ty ty' E:TypeId} {f d b:Nat} {c:Array Value} {v:Value} (hI:Inv w0 X L S w) (i:Nat) (hi:L[i]?=some (.blk b (.cells c E))) (hf:cg P T f=some d) (hU:jx P U=true) (hlt:Nat.blt d c.size=true)
  (hv:v.cells=#[v]) (h1:v.oneCell'=true)
  (hk:∀ w',Inv w0 X (L.set i (.blk b (.cells (c.setIfInBounds d v) E))) S w'->K undef w') :
  Run P (sOp (.fieldAddr T (.const (.pointer (some ⟨b,0,none⟩))) f) ty) w fun q w'=>Run P (sOp (.store U (.const q) (.const v)) ty') w' K:=by
 have hlt:d<c.size:=by simpa [Nat.blt_eq] using hlt
 refine bb hf ?_
 rw [Nat.zero_add]
 refine gK hI i (n:=1) (by rw [hv]; rfl) (by rw [hU]; rfl) hi (by omega) (by rw [hv]; simpa using h1) fun w' hI'=>hk w' ?_
 have:bO c d v.cells.toList=c.setIfInBounds d v:=by
  rw [hv]
  apply Array.toList_inj.1
  simp only [bO,Array.toList_setIfInBounds]
  have hl:d<c.toList.length:=by simpa using hlt
  rw [List.set_eq_take_append_cons_drop,if_pos hl]
  simp
 rw [this] at hI'
 exact hI'
theorem oZ {T ty E:TypeId} {o b n:Nat} {c:Array Value} {v:Value} (hI:Inv w0 X L S w) (i:Nat) (hi:L[i]?=some (.blk b (.cells c E))) (hT:lo P T=some n) (hn:v.cells.size=n) (hfit:Nat.ble (o+n) c.size=true)
  (h1:∀ u∈v.cells.toList,u.oneCell'=true) (hk:∀ w',Inv w0 X (L.set i (.blk b (.cells (bO c o v.cells.toList) E))) S w'->K undef w') :
  Run P (sOp (.store T (.const (.pointer (some ⟨b,o,none⟩))) (.const v)) ty) w K:=
 gK hI i hn (by rw [hT]; simp) hi (Nat.le_of_ble_eq_true hfit) h1 hk
/- x = v, x a whole block of the function's own -/
theorem bq {T ty E:TypeId} {b n:Nat} {c cs:Array Value} (hI:Inv w0 X L S w) (i:Nat) (hi:L[i]?=some (.blk b (.cells c E))) (hT:lo P T=some n) (hn:cs.size=n) (hc:c.size=n)
  (h1:∀ u∈cs.toList,u.oneCell'=true) (hk:∀ w',Inv w0 X (L.set i (.blk b (.cells cs E))) S w'->K undef w') :
  Run P (sOp (.store T (.const (.pointer (some ⟨b,0,none⟩))) (.const (.agg cs))) ty) w K:=by
 refine gK hI i (v:=.agg cs) (n:=n) hn (by rw [hT]; simp) hi (by omega) h1 fun w' hI'=>hk w' ?_
 have:bO c 0 (Value.agg cs).cells.toList=cs:=by
  rw [pf _ _ (by simp [Value.cells,hn,hc])]
  simp [Value.cells]
 rw [this] at hI'
 exact hI'
/- s[i] = v, s a slice of the function's own that begins at its block's head -/
theorem vZ {T U ty ty' E E':TypeId} {k b len cap j:Nat} {c:Array Value} {v:Value} (hI:Inv w0 X L S w) (i:Nat) (hi:L[i]?=some (.blk b (.cells c E'))) (hu:cG P T=some (E,k)) (hU:lo P U=some k)
  (hj:j<len) (hfit:(j+1) * k<=c.size) (hv:v.cells.size=k) (h1:∀ u∈v.cells.toList,u.oneCell'=true)
  (hk:∀ w',Inv w0 X (L.set i (.blk b (.cells (bO c (j * k) v.cells.toList) E'))) S w'->K undef w') :
  Run P (sOp (.indexAddr T (.const (.slice (some ⟨b,0,none⟩) len cap)) (.const (.int .i64 j))) ty) w fun p w'=>Run P (sOp (.store U (.const p) (.const v)) ty') w' K:=by
 refine aT hu hj ?_
 rw [Nat.zero_add]
 exact gK hI i (n:=k) hv (by rw [hU]; simp) hi (by rw [Nat.add_mul,Nat.one_mul] at hfit; omega) h1 hk
end

theorem TrSl.nil {α:Type} {k:Nat} {R:bo->List Value->α->Prop} {a:Option Addr} {cap:Nat} (hc:cap<=maxLen):TrSl k R [] (.slice a 0 cap) ([]:List α):=
 ⟨a,cap,rfl,Nat.zero_le _,hc,.inl ⟨rfl,rfl⟩⟩
/- the first k' elements of an array under construction -/
def Part {α:Type} (k:Nat) (R:bo->List Value->α->Prop) (c:Array Value) (Ls:List bo) (xs:List α):Prop:=
 Ls.length=xs.length/\∀ i (h:i<xs.length) (h':i<Ls.length),R Ls[i] (ba c (i * k) k) xs[i]
theorem Part.nil {α:Type} (k:Nat) (R:bo->List Value->α->Prop) (c:Array Value):Part k R c [] ([]:List α):=⟨rfl,fun i h=>by simp at h⟩
theorem Part.snoc {α:Type} {k:Nat} {R:bo->List Value->α->Prop} {c:Array Value} {Ls:List bo} {xs:List α} (h:Part k R c Ls xs) {cs:List Value} {L:bo} {x:α} (hx:R L cs x) (hl:cs.length=k)
  (hfit:(xs.length+1) * k<=c.size):Part k R (bO c (xs.length * k) cs) (Ls++[L]) (xs++[x]):=by
 have hf:xs.length * k+cs.length<=c.size:=by rw [hl]; rw [Nat.add_mul,Nat.one_mul] at hfit; exact hfit
 refine ⟨by simp [h.1],fun i h1 h2=>?_⟩
 by_cases hi:i<xs.length
 ·have h3:i<Ls.length:=by rw [h.1]; exact hi
  rw [List.getElem_append_left h3,List.getElem_append_left hi,iI hf]
  ·exact h.2 i hi h3
  ·left
   have:(i+1) * k<=xs.length * k:=Nat.mul_le_mul_right _ hi
   rw [Nat.add_mul,Nat.one_mul] at this
   exact this
 ·have hi':i=xs.length:=by simp at h1; omega
  subst hi'
  have h3:xs.length=Ls.length:=h.1.symm
  rw [List.getElem_append_right (by omega),List.getElem_append_right (by omega)]
  simp only [h3,Nat.sub_self,List.getElem_cons_zero]
  rw [<- h3,<- hl,gp (by rw [hl] at hf ⊢; exact hf)]
  exact hx
theorem Part.sl {α:Type} {k:Nat} {R:bo->List Value->α->Prop} {b:Nat} {c:Array Value} {E:TypeId} {Ls:List bo} {xs:List α} {cap:Nat} (h:Part k R c Ls xs) (h1:xs.length<=cap) (h2:cap<=maxLen) (h3:cap * k<=c.size) :
  TrSl k R ((b,.cells c E)::Ls.flatten) (.slice (some ⟨b,0,none⟩) xs.length cap) xs:=
 ⟨_,cap,rfl,h1,h2,.inr ⟨b,c,E,Ls,rfl,rfl,h.1,h3,h.2⟩⟩

end Go.Proofs.YtfcbhfjomgopbaaGreat

/- 'and', 'or' as the code has them; slices of strings; a list made of constants. -/
namespace Go.Proofs.YtfcbhfjomgopbaaGreat
open Go Go.RowKit
section
variable {P:Program} {w:World} {K:Value->World->Prop} {ty:TypeId}
theorem ab {b:Bool} {A B:Prop} (h:A):ak (.bool b) b A B:=by unfold ak; simp only [if_true]; exact h
theorem ad {c b:Bool} {A B:Prop} (hc:c≠b) (h:B):ak (.bool c) b A B:=by unfold ak; simp only [if_neg hc]; exact h
attribute [local irreducible] Run CondV ak bg
theorem gg {a:Bool} {v:Value} {A:Prop} (ht:a=true->A) (hf:a=false->K (.bool false) w):ak (.bool a) true A (Run P (sOp (.pick (.const (.bool a)) (.const v) (.const (.bool false))) ty) w K):=
 Eu ht fun h=>by
  have h':a=false:=by simpa using h
  refine rG ?_
  rw [h']
  exact hf h'
theorem eG {a:Bool} {v u:Value} (ha:a=true) (hk:K v w):Run P (sOp (.pick (.const (.bool a)) (.const v) (.const u)) ty) w K:=by
 refine rG ?_
 rw [ha]
 exact hk
theorem kK {v:Value} {A:Prop} (hk:K (.bool false) w):ak (.bool false) true A (Run P (sOp (.pick (.const (.bool false)) (.const v) (.const (.bool false))) ty) w K):=
 gg (fun h=>by cases h) fun _=>hk
theorem pT {a:Bool} {v:Value} {A:Prop} (ht:a=true->K (.bool true) w) (hf:a=false->A):ak (.bool a) false A (Run P (sOp (.pick (.const (.bool a)) (.const (.bool true)) (.const v)) ty) w K):=
 Eu hf fun h=>by
  have h':a=true:=by simpa using h
  refine rG ?_
  rw [h']
  exact ht h'
theorem jM {a:Bool} {v u:Value} (ha:a=false) (hk:K v w):Run P (sOp (.pick (.const (.bool a)) (.const u) (.const v)) ty) w K:=by
 refine rG ?_
 rw [ha]
 exact hk
theorem FV {v:Value} {A:Prop} (hk:K (.bool true) w):ak (.bool true) false A (Run P (sOp (.pick (.const (.bool true)) (.const (.bool true)) (.const v)) ty) w K):=
 pT (fun _=>hk) fun h=>by cases h
end

def x2 (cs:List Value) (s:ByteArray):Prop:=cs=[.string s]
def FW (cs:List Value) (n:Int):Prop:=cs=[.int .i64 n]
section
variable {P:Program} {w w0:World} {X:List Nat} {L:List Item} {S:ar} {K:Value->World->Prop}
attribute [local irreducible] Run CondV ak bg
/- an operation whose run is known in every world: it makes one block -/
theorem B2 (h:Inv w0 X L S w) {s:Sem Next} {v:Nat->Value} {o:Obj} (hr:s.run P w=.ok (.value (v w.heap.size)) { w with heap:=w.heap.push o })
  (hk:∀ b w',Inv w0 X (L++[.blk b o]) S w'->K (v b) w'):Run P s w K:=Run.of hr (hk _ _ (h.alloc o))
/- the last item is published -/
theorem Inv.publishLast {b:Nat} {o:Obj} (h:Inv w0 X (L++[.blk b o]) S w):Inv w0 X L (mi S b o) w/\Sle S (mi S b o):=by
 have hi:(L++[Item.blk b o])[L.length]?=some (.blk b o):=by simp
 have:=h.publish hi
 rwa [show (L++[Item.blk b o]).eraseIdx L.length=L by simp [List.eraseIdx_append_of_length_le]] at this
/- s[i] of a slice of one-cell elements -/
theorem kw {α:Type} {T U ty ty' E:TypeId} {R:List Value->α->Prop} {v u:Value} {xs:List α} (hI:Inv w0 X L S w) (h:RdSl S 1 R v xs) (hu:cG P T=some (E,1)) (hU:jx P U=true)
  {i:Nat} (hi:i<xs.length) (hR:∀ cs,R cs xs[i]->cs=[u]) (hk:K u w) :
  Run P (sOp (.indexAddr T (.const v) (.const (.int .i64 i))) ty) w fun p w'=>Run P (sOp (.load U (.const p)) ty') w' K:=by
 obtain ⟨b,o,cap,c,E',fz,rfl,hS,hr⟩:=h.at_ hi
 refine aT hu hi ?_
 refine fj hU ?_ hk
 rw [hI.cellS hS]
 exact aS (hR _ hr) 0 u rfl
end
theorem RdSl.ofCells {α:Type} {S:ar} {R:List Value->α->Prop} {b n:Nat} {c:Array Value} {E:TypeId} {fz:Nat × Nat} {xs:List α} (hS:S b=some (.cells c E fz)) (hn:xs.length=n) (hm:n<=maxLen)
  (h:∀ i (h:i<xs.length),R (ba c i 1) xs[i]):RdSl S 1 R (.slice (some ⟨b,0,none⟩) n n) xs:=by
 subst hn
 exact ⟨_,_,rfl,Nat.le_refl _,hm,.inr ⟨b,0,c,E,fz,rfl,hS,fun i hi=>by rw [Nat.zero_add,Nat.mul_one]; exact h i hi⟩⟩

end Go.Proofs.YtfcbhfjomgopbaaGreat

/- Which terms are valid: the two ways of saying it, and that they agree. No program in sight. -/
namespace Go.Proofs.YtfcbhfjomgopbaaGreat
open Go

def signs:List ByteArray:=[⟨#[43]⟩,⟨#[45]⟩,⟨#[42]⟩,⟨#[47,47]⟩,⟨#[61]⟩,⟨#[92,61]⟩,⟨#[61,61]⟩,⟨#[60]⟩,⟨#[62]⟩,⟨#[61,60]⟩,⟨#[62,61]⟩,⟨#[61,58,61]⟩,⟨#[46]⟩,⟨#[91,93]⟩,⟨#[33]⟩]
def me (b:UInt8):Bool:=decide (97<=b.toNat) && decide (b.toNat<=122)
def mc (s:ByteArray):Bool:=s.data.toList.all me
def iU (s:ByteArray):Bool:=mc s && (decide (1<=s.size) && decide (s.size<=6))
def jC (s:ByteArray):Bool:=iU s || signs.any fun x=>decide (x=s)
def emptyB:ByteArray:=⟨#[]⟩
def d3 (t:T):Bool:=
 if t.kind=1 then decide (0<=t.n) && (decide (t.n<=25) && (decide (t.name=emptyB) && decide (t.kids.length=0)))
 else if t.kind=2 then decide (-999<=t.n) && (decide (t.n<=999) && (decide (t.name=emptyB) && decide (t.kids.length=0)))
 else if t.kind=3 then decide (t.n=0) && (jC t.name && decide (t.kids.length<=4))
 else false
mutual
def er:T->Int->Bool
 | .mk k n s ks,d=>if d<1 then false else d3 (.mk k n s ks) && ep ks (d - 1)
def ep:List T->Int->Bool
 | [],_=>true
 | t::ts,d=>er t d && ep ts d
end
mutual
def dk:T->Int
 | .mk _ _ _ ks=>1+cJ ks
def cJ:List T->Int
 | []=>0
 | t::ts=>dk t+cJ ts
end
/- the count that stops -/
mutual
def gZ:T->Int->Int
 | .mk _ _ _ ks,most=>eB ks 1 most
def eB:List T->Int->Int->Int
 | [],n,_=>n
 | t::ts,n,most=>if n<=most then eB ts (n+gZ t (most - n)) most else n
end
def db (t:T):Bool:=er t 30 && decide (dk t<=120)

mutual
theorem l8:∀ t:T,1<=dk t
 | .mk _ _ _ ks=>by simp only [dk]; have:=dH ks; omega
theorem dH:∀ ts:List T,0<=cJ ts
 | []=>by simp [cJ]
 | t::ts=>by simp only [cJ]; have:=l8 t; have:=dH ts; omega
end
mutual
theorem qS:∀ (t:T) (most:Int),0<=most->(dk t<=most->gZ t most=dk t)/\(most<dk t->most<gZ t most/\gZ t most<=dk t)
 | .mk _ _ _ ks,most,h=>by
  simp only [dk,gZ]
  have:=yl ks 1 most h (by omega)
  exact this
theorem yl:∀ (ts:List T) (n most:Int),0<=most->1<=n->(n+cJ ts<=most->eB ts n most=n+cJ ts)/\(most<n+cJ ts->most<eB ts n most/\eB ts n most<=n+cJ ts)
 | [],n,most,h,h1=>by
  simp only [cJ,eB]
  exact ⟨fun _=>by omega,fun _=>by omega⟩
 | t::ts,n,most,h,h1=>by
  simp only [cJ,eB]
  have hp:=l8 t
  have hl:=dH ts
  by_cases hn:n<=most
  ·rw [if_pos hn]
   have ht:=qS t (most - n) (by omega)
   by_cases hc:dk t<=most - n
   ·rw [ht.1 hc]
    have hr:=yl ts (n+dk t) most h (by omega)
    exact ⟨fun h2=>by rw [hr.1 (by omega)]; omega,fun h2=>by have:=hr.2 (by omega); omega⟩
   ·have h3:=ht.2 (by omega)
    have h4:eB ts (n+gZ t (most - n)) most=n+gZ t (most - n):=by
     cases ts with
     | nil=>rfl
     | cons u us=>rw [eB,if_neg (by omega)]
    rw [h4]
    exact ⟨fun h2=>by omega,fun h2=>by omega⟩
  ·rw [if_neg hn]
   exact ⟨fun h2=>by omega,fun h2=>by omega⟩
end
theorem De (t:T):decide (gZ t 120<=120)=decide (dk t<=120):=by
 have h:=qS t 120 (by omega)
 by_cases hc:dk t<=120
 ·rw [h.1 hc]
 ·have:=h.2 (by omega)
  rw [decide_eq_false (by omega),decide_eq_false hc]

/- the scan: it counts as it goes -/
mutual
def ec:T->Int->Int->Bool × Int
 | .mk k n s ks,deep,c=>
  if 120<c+1 ∨ 30<deep then (false,c+1)
  else if k=1 ∨ k=2 then (d3 (.mk k n s ks),c+1)
  else if k=3 then (if d3 (.mk k n s ks) then ix ks (deep+1) (c+1) else (false,c+1))
  else (false,c+1)
def ix:List T->Int->Int->Bool × Int
 | [],_,c=>(true,c)
 | t::ts,deep,c=>if (ec t deep c).1 then ix ts deep (ec t deep c).2 else (false,(ec t deep c).2)
end
theorem Em {k n:Int} {s:ByteArray} {ks:List T} (h:d3 (.mk k n s ks)=true) (hk:k=1 ∨ k=2):ks=[]:=by
 unfold d3 at h
 simp only [T.kind,T.n,T.name,T.kids] at h
 rcases hk with rfl|rfl <;> simp at h <;> exact h.2.2.2
theorem Ea {k n:Int} {s:ByteArray} {ks:List T} (h:d3 (.mk k n s ks)=true):k=1 ∨ k=2 ∨ k=3:=by
 unfold d3 at h
 simp only [T.kind,T.n,T.name,T.kids] at h
 by_cases h1:k=1
 ·exact .inl h1
 ·by_cases h2:k=2
  ·exact .inr (.inl h2)
  ·by_cases h3:k=3
   ·exact .inr (.inr h3)
   ·simp [h1,h2,h3] at h
mutual
theorem uX:∀ (t:T) (deep c:Int),(ec t deep c).1=(er t (31 - deep) && decide (c+dk t<=120))/\((ec t deep c).1=true->(ec t deep c).2=c+dk t)
 | .mk k n s ks,deep,c=>by
  have hl:=dH ks
  rw [show dk (T.mk k n s ks)=1+cJ ks from rfl]
  simp only [ec,er]
  by_cases h1:120<c+1 ∨ 30<deep
  ·rw [if_pos h1]
   refine ⟨?_,fun h=>by cases h⟩
   rcases h1 with h1|h1
   ·rw [decide_eq_false (show ¬ (c+(1+cJ ks)<=120) by omega),Bool.and_false]
   ·rw [if_pos (show 31 - deep<1 by omega)]; rfl
  ·rw [if_neg h1,if_neg (show ¬ (31 - deep<1) by omega)]
   by_cases h2:k=1 ∨ k=2
   ·rw [if_pos h2]
    cases ho:d3 (.mk k n s ks) with
    | false=>exact ⟨rfl,fun h=>by cases h⟩
    | true=>
     have:=Em ho h2
     subst this
     rw [show cJ []=0 from rfl]
     simp only [ep,Bool.true_and]
     exact ⟨by rw [decide_eq_true (show c+(1+0)<=120 by omega)],fun _=>by omega⟩
   ·rw [if_neg h2]
    by_cases h3:k=3
    ·rw [if_pos h3]
     cases ho:d3 (.mk k n s ks) with
     | false=>exact ⟨rfl,fun h=>by cases h⟩
     | true=>
      simp only [if_true,Bool.true_and]
      have:=Aj ks (deep+1) (c+1)
      rw [show 31 - (deep+1)=31 - deep - 1 by omega] at this
      rw [show c+(1+cJ ks)=c+1+cJ ks by omega]
      refine ⟨?_,this.2⟩
      rw [this.1]
      cases ks with
      | nil=>rw [show cJ []=0 from rfl,decide_eq_true (show c+1+0<=120 by omega)]; rfl
      | cons t ts=>simp
    ·rw [if_neg h3]
     have ho:d3 (.mk k n s ks)=false:=by
      rw [<- Bool.not_eq_true]
      intro h
      rcases Ea h with e|e|e
      ·exact h2 (.inl e)
      ·exact h2 (.inr e)
      ·exact h3 e
     rw [ho]
     exact ⟨rfl,fun h=>by cases h⟩
theorem Aj:∀ (ts:List T) (deep c:Int),(ix ts deep c).1=(ep ts (31 - deep) && (ts.isEmpty || decide (c+cJ ts<=120)))/\((ix ts deep c).1=true->(ix ts deep c).2=c+cJ ts)
 | [],deep,c=>by simp [ix,ep,cJ]
 | t::ts,deep,c=>by
  have ht:=uX t deep c
  have hp:=dH ts
  rw [show cJ (t::ts)=dk t+cJ ts from rfl]
  simp only [ix,ep,List.isEmpty_cons,Bool.false_or]
  cases h1:(ec t deep c).1 with
  | false=>
   rw [h1] at ht
   have h2:=ht.1
   refine ⟨?_,fun h=>by cases h⟩
   simp only [Bool.false_eq_true,if_false]
   cases hs:er t (31 - deep) with
   | false=>rfl
   | true=>
    rw [hs,Bool.true_and] at h2
    have:¬ (c+dk t<=120):=of_decide_eq_false h2.symm
    rw [decide_eq_false (show ¬ (c+(dk t+cJ ts)<=120) by omega),Bool.and_false]
  | true=>
   rw [h1] at ht
   have h2:=ht.1
   have h3:=ht.2 rfl
   simp only [if_true]
   rw [h3]
   have hs:er t (31 - deep)=true/\c+dk t<=120:=by
    have:=h2.symm
    simpa using this
   have hl:=Aj ts deep (c+dk t)
   rw [show c+(dk t+cJ ts)=c+dk t+cJ ts by omega]
   refine ⟨?_,hl.2⟩
   rw [hl.1,hs.1,Bool.true_and]
   cases ts with
   | nil=>rw [show cJ []=0 from rfl,decide_eq_true (show c+dk t+0<=120 by omega)]; rfl
   | cons u us=>simp
end
theorem Bp (t:T):(ec t 1 0).1=db t:=by
 rw [(uX t 1 0).1,db]
 simp

end Go.Proofs.YtfcbhfjomgopbaaGreat

/- laws.toTerm and its kin: a copy in memory of its own. -/
namespace Go.Proofs.YtfcbhfjomgopbaaGreat
open Go Go.RowKit
attribute [local irreducible] Run CondV ak bg

mutual
def wT:T->Nat
 | .mk _ _ s ks=>s.size+ks.length+wL ks
def wL:List T->Nat
 | []=>0
 | t::ts=>wT t+wL ts
end
theorem Bg:∀ {ts:List T} {t:T},t∈ts->wT t<=wL ts
 | x::xs,t,h=>by
  simp only [wL]
  rcases List.mem_cons.1 h with rfl|h
  ·omega
  ·have:=Bg h; omega

abbrev Cw {α:Type} (k:Nat) (R:bo->List Value->α->Prop) (S:ar) (xs:List α):Value->List Item->ar->Prop:=
 fun v I' S'=>S'=S/\∃ L,I'=dP L/\TrSl k R L v xs
abbrev Fg (S:ar) (t:T):Value->List Item->ar->Prop:=fun v I' S'=>S'=S/\∃ cs L,v=.agg cs.toArray/\I'=dP L/\TrT L cs t

theorem un {ts:List T} (ih:∀ t∈ts,∀ (S:ar) (cs:List Value),RdT S cs t->wT t<=1048576->Tri Tryz.prog ol [.agg cs.toArray] [] S (Fg S t))
  {S:ar} {v:Value} (h:RdSl S 4 (RdT S) v ts) (hw:ts.length+wL ts<=1048576):Tri Tryz.prog l1 [v] [] S (Cw 4 TrT S ts):=by
 intro w hI
 refine ua ?_
 unfold o4
 refine a5 h fM ?_
 refine lH hI gv (by omega) (by omega) fun b c w' hc hI=>?_
 refine ⟨fun i w'=>∃ (k:Nat) (c:Array Value) (Ls:List bo),k<=ts.length/\i=.int .i64 k/\c.size=ts.length * 4/\Part 4 TrT c Ls (ts.take k)/\Inv w [] (dP ((b,.cells c ac)::Ls.flatten)) S w',
  fun i _=>ts.length - (intOf i).toNat,⟨0,c,[],Nat.zero_le _,rfl,hc,Part.nil _ _ _,hI⟩,?_⟩
 intro t4 _ _ _ _ _ _ _ _ _ _ _ _ _ _ w'
 rintro ⟨k,c,Ls,hk,rfl,hc,hp,hI⟩
 refine a5 h fM ?_
 refine bz ?_
 refine bf (fun hki=>?_) (fun hki=>?_)
 ·have hk':k<ts.length:=by omega
  have htl:(ts.take k).length=k:=by simp; omega
  refine cj hI h fM km hk' (fun _ _=>RdT.length) fun cs hcs=>?_
  have hm:=List.getElem_mem hk'
  have hwm:=Bg hm
  refine Run.call0 iZ i4 hI (ih _ hm S cs hcs (by omega)) fun v' I' S' w'=>?_
  rintro ⟨rfl,cs',L,rfl,rfl,hT⟩ _ hI
  refine vZ hI 0 (k:=4) (by rfl) aC al hk' (by omega) (by simp [Value.cells,hT.length]) (by simpa [Value.cells] using hT.one) fun w' hI=>?_
  refine b0 (by omega) ?_
  refine ⟨⟨k+1,bO c (k * 4) cs',Ls++[L],hk',rfl,?_,?_,?_⟩,by simp [intOf]; omega⟩
  ·rw [fr _ _ _ (by rw [hT.length]; omega)]; exact hc
  ·have:=hp.snoc hT hT.length (by rw [htl]; omega)
   rw [htl] at this
   rw [List.take_succ_eq_append_getElem hk']
   exact this
  ·simp only [List.flatten_append,List.flatten_cons,List.flatten_nil,List.append_nil]
   simpa [dP,Value.cells] using hI
 ·have:k=ts.length:=by omega
  subst this
  rw [List.take_length] at hp
  exact ⟨_,_,_,rfl,hI,Ext.refl _ _ _,rfl,_,rfl,hp.sl (Nat.le_refl _) (by simp only [maxLen]; omega) (by omega)⟩

theorem hZ:∀ (t:T) (S:ar) (cs:List Value),RdT S cs t->wT t<=1048576->Tri Tryz.prog ol [.agg cs.toArray] [] S (Fg S t):=by
 refine T.ind fun k n s ks ih S cs h hw=>?_
 intro w hI
 obtain ⟨kv,rfl,h1,h2,hs,hks⟩:=RdT.iff.1 h
 simp only [T.name,T.kids,T.kind,T.n] at h1 h2 hs hks ⊢
 simp only [wT] at hw
 refine vx ?_
 unfold r9
 refine bt hI fun b1 w' hI=>?_
 refine bC hI bA fun b2 w' hI=>?_
 refine bC hI bA fun b3 w' hI=>?_
 refine ah hI 0 rfl Bf aR rfl ?_
 refine dF hI 2 rfl aU aR rfl rfl rfl fun w' hI=>?_
 refine ah hI 0 rfl Bm aR rfl ?_
 refine dF hI 2 rfl a9 aR rfl rfl rfl fun w' hI=>?_
 refine ah hI 0 rfl uO bk rfl ?_
 refine dF hI 2 rfl bi bk rfl rfl rfl fun w' hI=>?_
 refine ah hI 0 rfl uP mI rfl ?_
 refine Run.call0 kX kN hI (un ih hks (by omega)) fun v' I' S' w'=>?_
 rintro ⟨rfl,L,rfl,hT⟩ _ hI
 have hv:v'.cells=#[v']/\v'.oneCell'=true:=by obtain ⟨a,cap,rfl,_⟩:=hT; exact ⟨rfl,rfl⟩
 refine dF hI 2 rfl aP aO rfl hv.1 hv.2 fun w' hI=>?_
 refine a8 hI 2 al rfl rfl ?_
 refine bq hI 1 rfl al rfl rfl ?_ fun w' hI=>?_
 ·intro u hu
  have hu':u∈([.int .i64 k,.int .i64 n,.string s,v']:List Value):=hu
  simp at hu'
  rcases hu' with rfl|rfl|rfl|rfl <;> first|rfl|exact hv.2
 refine dJ hI 1 al rfl rfl ?_
 refine ⟨_,_,_,rfl,hI.sub (List.sublist_append_right [_,_,_] (dP L)),Ext.refl _ _ _,rfl,[.int .i64 k,.int .i64 n,.string s,v'],L,rfl,rfl,TrT.iff.2 ⟨v',rfl,h1,h2,hs,hT⟩⟩
theorem nO {ts:List T} {S:ar} {v:Value} (h:RdSl S 4 (RdT S) v ts) (hw:ts.length+wL ts<=1048576):Tri Tryz.prog l1 [v] [] S (Cw 4 TrT S ts):=
 un (fun t _=>hZ t) h hw

def wC (c:C):Nat:=wT c.head+c.body.length+wL c.body
def wP:List C->Nat
 | []=>0
 | c::cs=>wC c+wP cs
theorem BF:∀ {cs:List C} {c:C},c∈cs->wC c<=wP cs
 | x::xs,c,h=>by
  simp only [wP]
  rcases List.mem_cons.1 h with rfl|h
  ·omega
  ·have:=BF h; omega
abbrev FO (S:ar) (c:C):Value->List Item->ar->Prop:=fun v I' S'=>S'=S/\∃ cs L,v=.agg cs.toArray/\I'=dP L/\TrC L cs c
theorem lQ {c:C} {S:ar} {cs:List Value} (h:RdC S cs c) (hw:wC c<=1048576):Tri Tryz.prog pX [.agg cs.toArray] [] S (FO S c):=by
 intro w hI
 obtain ⟨hd,ks,rfl,h1,h2⟩:=h
 obtain ⟨kv,rfl,g1,g2,g3,g4⟩:=RdT.iff.1 h1
 unfold wC at hw
 refine rK ?_
 unfold nF
 refine bt hI fun b1 w' hI=>?_
 refine bC hI kr fun b2 w' hI=>?_
 refine bC hI kr fun b3 w' hI=>?_
 refine bb qG ?_
 refine bY hI 0 [.int .i64 c.head.kind,.int .i64 c.head.n,.string c.head.name,kv] km rfl rfl ?_ ?_
 ·intro j v hj
  match j with
  | 0|1|2|3=>exact hj
  | j+4=>simp at hj
 refine Run.call0 iZ i4 hI (hZ _ S _ h1 (by omega)) fun v' I' S' w'=>?_
 rintro ⟨rfl,cs1,L1,rfl,rfl,hT1⟩ _ hI
 obtain ⟨kv1,rfl,e1,e2,e3,e4⟩:=TrT.iff.1 hT1
 have hv1:kv1.oneCell'=true:=by obtain ⟨a,cap,rfl,_⟩:=e4; rfl
 refine bb dr ?_
 refine oZ hI 2 rfl al rfl rfl ?_ fun w' hI=>?_
 ·intro u hu
  simp [Value.cells] at hu
  rcases hu with rfl|rfl|rfl|rfl <;> first|rfl|exact hv1
 refine ah hI 0 rfl oV mI rfl ?_
 refine Run.call0 kX kN hI (nO h2 (by omega)) fun v' I' S' w'=>?_
 rintro ⟨rfl,L2,rfl,hT2⟩ _ hI
 have hv:v'.cells=#[v']/\v'.oneCell'=true:=by obtain ⟨a,cap,rfl,_⟩:=hT2; exact ⟨rfl,rfl⟩
 refine dF hI 2 rfl cn aO rfl hv.1 hv.2 fun w' hI=>?_
 refine a8 hI 2 dd rfl rfl ?_
 refine bq hI 1 rfl dd rfl rfl ?_ fun w' hI=>?_
 ·intro u hu
  have hu':u∈([.int .i64 c.head.kind,.int .i64 c.head.n,.string c.head.name,kv1,v']:List Value):=hu
  simp at hu'
  rcases hu' with rfl|rfl|rfl|rfl|rfl <;> first|rfl|exact hv1|exact hv.2
 refine dJ hI 1 dd rfl rfl ?_
 have hI':=hI.sub (List.sublist_append_right [_,_,_] (dP L1++dP L2))
 rw [<- sc] at hI'
 exact ⟨_,_,_,rfl,hI',Ext.refl _ _ _,rfl,[.int .i64 c.head.kind,.int .i64 c.head.n,.string c.head.name,kv1,v'],L1++L2,rfl,rfl,
  [.int .i64 c.head.kind,.int .i64 c.head.n,.string c.head.name,kv1],v',L1,L2,rfl,rfl,hT1,hT2⟩
theorem tf {p:List C} {S:ar} {v:Value} (h:RdSl S 5 (RdC S) v p) (hw:p.length+wP p<=1048576):Tri Tryz.prog nS [v] [] S (Cw 5 TrC S p):=by
 intro w hI
 refine oQ ?_
 unfold l9
 refine a5 h ef ?_
 refine lH hI AA (by omega) (by omega) fun b c w' hc hI=>?_
 refine ⟨fun i w'=>∃ (k:Nat) (c:Array Value) (Ls:List bo),k<=p.length/\i=.int .i64 k/\c.size=p.length * 5/\Part 5 TrC c Ls (p.take k)/\Inv w [] (dP ((b,.cells c cN)::Ls.flatten)) S w',
  fun i _=>p.length - (intOf i).toNat,⟨0,c,[],Nat.zero_le _,rfl,hc,Part.nil _ _ _,hI⟩,?_⟩
 intro t4 _ _ _ _ _ _ _ _ _ _ _ _ _ _ w'
 rintro ⟨k,c,Ls,hk,rfl,hc,hp,hI⟩
 refine a5 h ef ?_
 refine bz ?_
 refine bf (fun hki=>?_) (fun hki=>?_)
 ·have hk':k<p.length:=by omega
  have htl:(p.take k).length=k:=by simp; omega
  refine cj hI h ef wj hk' (fun _ _=>RdC.length) fun cs hcs=>?_
  have hwm:=BF (List.getElem_mem hk')
  refine Run.call0 nj nR hI (lQ hcs (by omega)) fun v' I' S' w'=>?_
  rintro ⟨rfl,cs',L,rfl,rfl,hT⟩ _ hI
  refine vZ hI 0 (k:=5) (by rfl) bI dd hk' (by omega) (by simp [Value.cells,hT.length]) (by simpa [Value.cells] using hT.one) fun w' hI=>?_
  refine b0 (by omega) ?_
  refine ⟨⟨k+1,bO c (k * 5) cs',Ls++[L],hk',rfl,?_,?_,?_⟩,by simp [intOf]; omega⟩
  ·rw [fr _ _ _ (by rw [hT.length]; omega)]; exact hc
  ·have:=hp.snoc hT hT.length (by rw [htl]; omega)
   rw [htl] at this
   rw [List.take_succ_eq_append_getElem hk']
   exact this
  ·simp only [List.flatten_append,List.flatten_cons,List.flatten_nil,List.append_nil]
   simpa [dP,Value.cells] using hI
 ·have:k=p.length:=by omega
  subst this
  rw [List.take_length] at hp
  exact ⟨_,_,_,rfl,hI,Ext.refl _ _ _,rfl,_,rfl,hp.sl (Nat.le_refl _) (by simp only [maxLen]; omega) (by omega)⟩

end Go.Proofs.YtfcbhfjomgopbaaGreat

/- The reference's TermValid and what it calls. -/
namespace Go.Proofs.YtfcbhfjomgopbaaGreat
open Go Go.RowKit
attribute [local irreducible] Run CondV ak bg

theorem AC {α:Type} (p:α->Bool) (l:List α) (k:Nat) (h:k<l.length):(l.drop k).all p=(p l[k] && (l.drop (k+1)).all p):=by
 rw [List.drop_eq_getElem_cons h,List.all_cons]
theorem Aq {α:Type} (p:α->Bool) (l:List α) (k:Nat) (h:k<l.length):(l.drop k).any p=(p l[k] || (l.drop (k+1)).any p):=by
 rw [List.drop_eq_getElem_cons h,List.any_cons]
theorem jJ (s:ByteArray):s.data.toList.length=s.size:=by rw [Array.length_toList]; rfl
theorem zO (s:ByteArray) (k:Nat) (h:k<s.size):s.data.toList[k]'(by rw [jJ]; exact h)=s[k]:=rfl

theorem o7 (s:ByteArray) (hs:s.size<=maxLen) (S:ar):Pure Tryz.prog B3 [.string s] S (.bool (iU s)):=by
 intro w hI
 simp only [maxLen] at hs
 refine uy ?_
 unfold rY
 refine ⟨fun i w'=>∃ k:Nat,k<=s.size/\i=.int .i64 k/\(s.data.toList.drop k).all me=mc s/\Inv w [] [] S w',fun i _=>s.size - (intOf i).toNat,⟨0,Nat.zero_le _,rfl,rfl,hI⟩,?_⟩
 intro t3 _ _ _ _ _ _ _ _ _ _ _ _ _ _ _ _ _ w'
 rintro ⟨k,hk,rfl,hrel,hI⟩
 refine ki dX ?_
 refine bz ?_
 refine bf (fun hki=>?_) (fun hki=>?_)
 ·have hk':k<s.size:=by omega
  have hstep:=AC me s.data.toList k (by rw [jJ]; exact hk')
  rw [zO s k hk'] at hstep
  refine ⟨fun t w'=>t=.bool (!me s[k])/\Inv w [] [] S w',?_,?_⟩
  ·refine kL dX hk' ?_
   refine bz ?_
   refine pT (fun h=>⟨?_,hI⟩) (fun h=>?_)
   ·have h:=of_decide_eq_true h
    rw [me,decide_eq_false (show ¬ 97<=s[k].toNat by omega)]; rfl
   ·refine kL dX hk' ?_
    refine hG ?_
    refine jM h ⟨?_,hI⟩
    have h:=of_decide_eq_false h
    rw [me,decide_eq_true (show 97<=s[k].toNat by omega),Bool.true_and]
    by_cases h2:s[k].toNat<=122
    ·rw [decide_eq_true h2,decide_eq_false (by omega)]; rfl
    ·rw [decide_eq_false h2,decide_eq_true (by omega)]; rfl
  intro t _ _ _ _ _ _ _ _ _ w'
  rintro ⟨rfl,hI⟩
  refine bd (fun h=>done hI ?_) (fun h=>?_)
  ·simp at h
   rw [iU,<- hrel,hstep,h]; rfl
  ·simp at h
   refine b0 (by omega) ?_
   refine ⟨⟨k+1,hk',rfl,by rw [<- hrel,hstep,h]; rfl,hI⟩,by simp [intOf]; omega⟩
 ·have:k=s.size:=by omega
  subst this
  have hl:mc s=true:=by rw [<- hrel,<- jJ,List.drop_length]; rfl
  refine ki dX ?_
  refine g5 ?_
  refine gg (fun h=>?_) (fun h=>done hI ?_)
  ·refine ki dX ?_
   refine gi ?_
   refine eG h (done hI ?_)
   have h:=of_decide_eq_true h
   rw [iU,hl,decide_eq_true (show 1<=s.size by omega)]
   by_cases h2:s.size<=6
   ·rw [decide_eq_true h2,decide_eq_true (by omega)]; rfl
   ·rw [decide_eq_false h2,decide_eq_false (by omega)]; rfl
  ·have h:=of_decide_eq_false h
   rw [iU,hl,decide_eq_false (show ¬ 1<=s.size by omega)]; rfl

def rL:Array Value:=(signs.map Value.string).toArray
theorem AO {S:ar} {b:Nat} {E:TypeId} (hS:S b=some (.cells rL E)):RdSl S 1 x2 (.slice (some ⟨b,0,none⟩) 15 15) signs:=by
 refine RdSl.ofCells hS rfl (by decide) ?_
 intro i hi
 have hi':i<15:=hi
 match i,hi' with
 | 0,_|1,_|2,_|3,_|4,_|5,_|6,_|7,_|8,_|9,_|10,_|11,_|12,_|13,_|14,_=>rfl
abbrev yc (S:ar):Value->List Item->ar->Prop:=fun v I' S'=>I'=[]/\Sle S S'/\RdSl S' 1 x2 v signs
theorem Ba {S:ar} {b n:Nat} {o:Obj} (h:n<=b) (hs:Sle S (mi S b o)):Ext n [] S (mi S b o):=
 ⟨hs,fun c o' hc=>by
  simp only [mi] at hc
  split at hc
  ·rename_i e; subst e; exact .inr (.inr h)
  ·exact .inl hc⟩
theorem xi (S:ar):Tri Tryz.prog AF [] [] S (yc S):=by
 intro w hI
 refine tP ?_
 unfold pP
 refine B2 (v:=fun b=>.slice (some ⟨b,0,none⟩) 15 15) (o:=.cells rL pC) hI (by kernel_rfl) fun b w' hI=>?_
 have hnew:w.heap.size<=b:=by
  rcases hI.new b (by simp [bv,Item.foot]) with h|h
  ·simp [bv] at h
  ·exact h
 obtain ⟨h1,h2⟩:=Inv.publishLast (L:=[]) hI
 exact ⟨_,_,_,rfl,h1,Ba hnew h2,rfl,h2,AO (by simp [mi]; rfl)⟩
theorem Al (s:ByteArray) {xs:List ByteArray} {S:ar} {v:Value} (h:RdSl S 1 x2 v xs):Pure Tryz.prog CT [v,.string s] S (.bool (xs.any fun x=>decide (x=s))):=by
 intro w hI
 have hlen:=h.le
 simp only [maxLen] at hlen
 refine xf ?_
 unfold uq
 refine ⟨fun i w'=>∃ k:Nat,k<=xs.length/\i=.int .i64 k/\(xs.drop k).any (fun x=>decide (x=s))=xs.any (fun x=>decide (x=s))/\Inv w [] [] S w',fun i _=>xs.length - (intOf i).toNat,⟨0,Nat.zero_le _,rfl,rfl,hI⟩,?_⟩
 intro t3 _ _ _ _ _ _ _ _ _ _ _ _ _ w'
 rintro ⟨k,hk,rfl,hrel,hI⟩
 refine a5 h kD ?_
 refine bz ?_
 refine bf (fun hki=>?_) (fun hki=>?_)
 ·have hk':k<xs.length:=by omega
  have hstep:=Aq (fun x=>decide (x=s)) xs k hk'
  refine kw hI h kD bk hk' (fun cs hcs=>hcs) ?_
  refine bm ?_
  refine bd (fun he=>done hI ?_) (fun he=>?_)
  ·rw [<- hrel,hstep,he]; rfl
  ·refine b0 (by omega) ?_
   exact ⟨⟨k+1,hk',rfl,by rw [<- hrel,hstep,he]; rfl,hI⟩,by simp [intOf]; omega⟩
 ·have:k=xs.length:=by omega
  subst this
  exact done hI (by rw [<- hrel,List.drop_length]; rfl)
/- the end of a reading function that has published something for itself -/
theorem g9 {w w':World} {L:List Item} {S S':ar} {r r':Value} (h:Inv w [] L S' w') (hs:Sle S S') (e:r'=r):Ending.returned r'=.returned r/\Inv w [] [] S w':=⟨by rw [e],h.nil.less hs⟩
theorem ro (s:ByteArray) (hs:s.size<=maxLen) (S:ar):Pure Tryz.prog xq [.string s] S (.bool (jC s)):=by
 intro w hI
 refine oO ?_
 unfold l7
 refine Run.callPure sx sk hI (o7 s hs S) fun w' hI=>?_
 refine pT (fun h=>done hI ?_) (fun h=>?_)
 ·rw [jC,h]; rfl
 ·refine Run.call0 yI yD hI (xi S) fun v' I' S' w'=>?_
  rintro ⟨rfl,_,hr⟩ hle hI
  refine Run.callPure Cf Bh hI (Al s hr) fun w' hI=>?_
  refine jM h (g9 hI hle ?_)
  rw [jC,h]; rfl

theorem AS {t:T} {S:ar} {cs:List Value} (h:RdT S cs t):Pure Tryz.prog CR [.agg cs.toArray] S (.bool (d3 t)):=by
 intro w hI
 obtain ⟨kv,rfl,_,_,hs,hks⟩:=RdT.iff.1 h
 obtain ⟨k,n,s,ks⟩:=t
 simp only [T.name,T.kids,T.kind,T.n] at hs hks ⊢
 refine wS ?_
 unfold vj;dsimp only
 refine bt hI fun b1 w' hI=>?_
 refine ah hI 0 rfl aU aR rfl ?_
 refine bu ?_
 refine bf (fun hk=>?_) (fun hk=>?_)
 ·have ho:d3 (.mk k n s ks)=(decide (0<=n) && (decide (n<=25) && (decide (s=emptyB) && decide (ks.length=0)))):=by
   rw [d3]; exact if_pos hk
  refine ah hI 0 rfl a9 aR rfl ?_
  refine g5 ?_
  refine gg (fun h1=>?_) (fun h1=>?_)
  ·refine ah hI 0 rfl a9 aR rfl ?_
   refine gi ?_
   refine eG h1 ?_
   refine gg (fun h2=>?_) (fun h2=>?_)
   ·refine ah hI 0 rfl bi bk rfl ?_
    refine bm ?_
    refine eG h2 ?_
    refine gg (fun h3=>?_) (fun h3=>done hI ?_)
    ·refine ah hI 0 rfl aP aO rfl ?_
     refine a5 hks aC ?_
     refine bu ?_
     refine eG h3 (done hI ?_)
     rw [ho,h1,h2,show decide (s=emptyB)=true from h3]
     simp
    ·rw [ho,h1,h2,show decide (s=emptyB)=false from h3]; rfl
   ·refine kK (done hI ?_)
    rw [ho,h1,h2]; rfl
  ·refine kK (kK (done hI ?_))
   rw [ho,h1]; rfl
 refine bu ?_
 refine bf (fun hk2=>?_) (fun hk2=>?_)
 ·have ho:d3 (.mk k n s ks)=(decide (-999<=n) && (decide (n<=999) && (decide (s=emptyB) && decide (ks.length=0)))):=by
   rw [d3]; exact (if_neg hk).trans (if_pos hk2)
  refine ah hI 0 rfl a9 aR rfl ?_
  refine g5 ?_
  refine gg (fun h1=>?_) (fun h1=>?_)
  ·refine ah hI 0 rfl a9 aR rfl ?_
   refine gi ?_
   refine eG h1 ?_
   refine gg (fun h2=>?_) (fun h2=>?_)
   ·refine ah hI 0 rfl bi bk rfl ?_
    refine bm ?_
    refine eG h2 ?_
    refine gg (fun h3=>?_) (fun h3=>done hI ?_)
    ·refine ah hI 0 rfl aP aO rfl ?_
     refine a5 hks aC ?_
     refine bu ?_
     refine eG h3 (done hI ?_)
     rw [ho,h1,h2,show decide (s=emptyB)=true from h3]
     simp
    ·rw [ho,h1,h2,show decide (s=emptyB)=false from h3]; rfl
   ·refine kK (done hI ?_)
    rw [ho,h1,h2]; rfl
  ·refine kK (kK (done hI ?_))
   rw [ho,h1]; rfl
 refine bu ?_
 refine bf (fun hk3=>?_) (fun hk3=>done hI ?_)
 ·have ho:d3 (.mk k n s ks)=(decide (n=0) && (jC s && decide (ks.length<=4))):=by
   rw [d3]; exact (if_neg hk).trans ((if_neg hk2).trans (if_pos hk3))
  refine ah hI 0 rfl a9 aR rfl ?_
  refine bu ?_
  refine gg (fun h1=>?_) (fun h1=>?_)
  ·refine ah hI 0 rfl bi bk rfl ?_
   refine Run.callPure we uF hI (ro s hs S) fun w' hI=>?_
   refine eG h1 ?_
   refine gg (fun h2=>?_) (fun h2=>done hI ?_)
   ·refine ah hI 0 rfl aP aO rfl ?_
    refine a5 hks aC ?_
    refine gi ?_
    refine eG h2 (done hI ?_)
    rw [ho,h1,h2]
    simp
    omega
   ·rw [ho,h1,h2]; rfl
  ·refine kK (done hI ?_)
   rw [ho,h1]; rfl
 ·rw [d3]
  exact congrArg Value.bool ((if_neg hk).trans ((if_neg hk2).trans (if_neg hk3))).symm

theorem xd:∀ (t:T) (S:ar) (cs:List Value) (d:Int),RdT S cs t->-1<=d->d<=1000->Pure Tryz.prog zZ [.agg cs.toArray,.int .i64 d] S (.bool (er t d)):=by
 refine T.ind fun k n s ks ih S cs d h h0 h1=>?_
 intro w hI
 have hcs:=h
 obtain ⟨kv,rfl,_,_,hs,hks⟩:=RdT.iff.1 h
 simp only [T.name,T.kids,T.kind,T.n] at hs hks ⊢
 have hlen:=hks.le
 simp only [maxLen] at hlen
 refine sY ?_
 unfold qH
 refine bt hI fun b1 w' hI=>?_
 refine ⟨fun t w'=>t=.bool (decide (d<1) || !d3 (.mk k n s ks))/\Inv w [] [.blk b1 (.cells #[.int .i64 k,.int .i64 n,.string s,kv] ac)] S w',?_,?_⟩
 ·refine bz ?_
  refine pT (fun h=>⟨by rw [h]; rfl,hI⟩) (fun h=>?_)
  refine a8 hI 0 al rfl rfl ?_
  refine Run.callPure BV Bb hI (AS hcs) fun w' hI=>?_
  refine bJ ?_
  exact jM h ⟨by rw [h]; rfl,hI⟩
 intro t _ _ _ _ _ _ w'
 rintro ⟨rfl,hI⟩
 refine bd (fun hb=>done hI ?_) (fun hb=>?_)
 ·rw [er]
  by_cases hd:d<1
  ·rw [if_pos hd]
  ·rw [if_neg hd]
   simp [hd] at hb
   rw [hb]; rfl
 have hd:¬ d<1:=fun h=>by simp [h] at hb
 have ho:d3 (.mk k n s ks)=true:=by simp [hd] at hb; exact hb
 refine ⟨fun i w'=>∃ j:Nat,j<=ks.length/\i=.int .i64 j/\ep (ks.drop j) (d - 1)=ep ks (d - 1)/\Inv w [] [.blk b1 (.cells #[.int .i64 k,.int .i64 n,.string s,kv] ac)] S w',
  fun i _=>ks.length - (intOf i).toNat,⟨0,Nat.zero_le _,rfl,rfl,hI⟩,?_⟩
 intro t5 _ _ _ _ _ _ _ _ _ _ _ _ _ _ _ _ _ w'
 rintro ⟨j,hj,rfl,hrel,hI⟩
 refine ah hI 0 rfl aP aO rfl ?_
 refine a5 hks aC ?_
 refine bz ?_
 refine bf (fun hji=>?_) (fun hji=>?_)
 ·have hj':j<ks.length:=by omega
  have hstep:ep (ks.drop j) (d - 1)=(er ks[j] (d - 1) && ep (ks.drop (j+1)) (d - 1)):=by
   rw [List.drop_eq_getElem_cons hj',ep]
  refine ah hI 0 rfl aP aO rfl ?_
  refine cj hI hks aC al hj' (fun _ _=>RdT.length) fun cs' hcs'=>?_
  refine jA (by omega) ?_
  refine Run.callPure pu qk hI (ih _ (List.getElem_mem hj') S cs' (d - 1) hcs' (by omega) (by omega)) fun w' hI=>?_
  refine bJ ?_
  refine bd (fun hne=>done hI ?_) (fun he=>?_)
  ·simp at hne
   rw [er,if_neg hd,ho,<- hrel,hstep,hne]; rfl
  ·simp at he
   refine b0 (by omega) ?_
   exact ⟨⟨j+1,hj',rfl,by rw [<- hrel,hstep,he]; rfl,hI⟩,by simp [intOf]; omega⟩
 ·have:j=ks.length:=by omega
  subst this
  refine done hI ?_
  rw [er,if_neg hd,ho,<- hrel,List.drop_length,ep]; rfl

theorem wk:∀ (ts:List T) (j:Nat) (h:j<ts.length),cJ (ts.drop j)=dk ts[j]+cJ (ts.drop (j+1)):=by
 intro ts j h
 rw [List.drop_eq_getElem_cons h,cJ]
theorem xE:∀ (t:T) (S:ar) (cs:List Value) (most:Int),RdT S cs t->0<=most->most<=1000->dk t<=4611686018427387904->Pure Tryz.prog Ap [.agg cs.toArray,.int .i64 most] S (.int .i64 (gZ t most)):=by
 refine T.ind fun k n s ks ih S cs most h h0 h1 hc=>?_
 intro w hI
 obtain ⟨kv,rfl,_,_,hs,hks⟩:=RdT.iff.1 h
 simp only [T.name,T.kids,T.kind,T.n] at hs hks ⊢
 have hlen:=hks.le
 simp only [maxLen] at hlen
 rw [show dk (T.mk k n s ks)=1+cJ ks from rfl] at hc
 refine ub ?_
 unfold pz
 refine bt hI fun b1 w' hI=>?_
 refine ⟨fun i m w'=>∃ (j:Nat) (c:Int),j<=ks.length/\i=.int .i64 j/\m=.int .i64 c/\1<=c/\c+cJ (ks.drop j)<=1+cJ ks/\eB (ks.drop j) c most=eB ks 1 most/\Inv w [] [.blk b1 (.cells #[.int .i64 k,.int .i64 n,.string s,kv] ac)] S w',
  fun i _ _=>ks.length - (intOf i).toNat,⟨0,1,Nat.zero_le _,rfl,rfl,by omega,by rw [List.drop_zero]; omega,rfl,hI⟩,?_⟩
 intro t6 _ _ t5 _ _ _ _ _ _ _ _ _ _ _ _ _ _ _ _ _ _ _ _ _ w'
 rintro ⟨j,c,hj,rfl,rfl,hc1,hc2,hrel,hI⟩
 refine ⟨fun t w'=>t=.bool (decide (j<ks.length) && decide (c<=most))/\Inv w [] [.blk b1 (.cells #[.int .i64 k,.int .i64 n,.string s,kv] ac)] S w',?_,?_⟩
 ·refine ah hI 0 rfl aP aO rfl ?_
  refine a5 hks aC ?_
  refine bz ?_
  refine gg (fun h=>?_) (fun h=>⟨?_,hI⟩)
  ·refine gi ?_
   refine eG h ⟨?_,hI⟩
   rw [decide_eq_true (show j<ks.length from by have:=of_decide_eq_true h; omega)]; rfl
  ·rw [decide_eq_false (show ¬ j<ks.length from by have:=of_decide_eq_false h; omega)]; rfl
 intro t _ _ _ _ _ _ _ _ _ w'
 rintro ⟨rfl,hI⟩
 refine bd (fun hb=>?_) (fun hb=>done hI ?_)
 ·simp at hb
  obtain ⟨hj',hcm⟩:=hb
  have hsp:=wk ks j hj'
  have hstep:eB (ks.drop j) c most=eB (ks.drop (j+1)) (c+gZ ks[j] (most - c)) most:=by
   rw [List.drop_eq_getElem_cons hj',eB,if_pos hcm]
  have hct:=qS ks[j] (most - c) (by omega)
  have hp:=l8 ks[j]
  have hlp:=dH (ks.drop (j+1))
  have hcle:1<=gZ ks[j] (most - c)/\gZ ks[j] (most - c)<=dk ks[j]:=by
   by_cases hq:dk ks[j]<=most - c
   ·rw [hct.1 hq]; omega
   ·have:=hct.2 (by omega); omega
  refine ah hI 0 rfl aP aO rfl ?_
  refine cj hI hks aC al hj' (fun _ _=>RdT.length) fun cs' hcs'=>?_
  refine jA (by omega) ?_
  refine Run.callPure pZ qs hI (ih _ (List.getElem_mem hj') S cs' (most - c) hcs' (by omega) (by omega) (by omega)) fun w' hI=>?_
  refine b0 (by omega) ?_
  refine b0 (by omega) ?_
  exact ⟨⟨j+1,_,hj',rfl,rfl,by omega,by omega,by rw [<- hrel,hstep],hI⟩,by simp [intOf]; omega⟩
 ·show Value.int .i64 c=Value.int .i64 (eB ks 1 most)
  rw [<- hrel]
  by_cases hj':j<ks.length
  ·simp [hj'] at hb
   rw [List.drop_eq_getElem_cons hj',eB,if_neg (by omega)]
  ·rw [List.drop_eq_nil_of_le (by omega),eB]

mutual
theorem Ef:∀ t:T,dk t<=1+(wT t:Int)
 | .mk k n s ks=>by
  rw [show dk (T.mk k n s ks)=1+cJ ks from rfl,wT]
  have:=Bl ks
  omega
theorem Bl:∀ ts:List T,cJ ts<=ts.length+(wL ts:Int)
 | []=>by simp [cJ,wL]
 | t::ts=>by
  rw [show cJ (t::ts)=dk t+cJ ts from rfl,wL,List.length_cons]
  have:=Ef t; have:=Bl ts
  omega
end

theorem eV {t:T} {S:ar} {cs:List Value} (h:RdT S cs t) (hc:dk t<=4611686018427387904):Pure Tryz.prog xl [.agg cs.toArray] S (.bool (db t)):=by
 intro w hI
 have hl:=h.length
 refine qw ?_
 unfold mr
 refine bt hI fun b1 w' hI=>?_
 refine a8 hI 0 al rfl (by simpa [Value.cells] using hl) ?_
 refine Run.callPure pu qk hI (xd t S cs 30 h (by omega) (by omega)) fun w' hI=>?_
 refine gg (fun h1=>?_) (fun h1=>done hI ?_)
 ·refine a8 hI 0 al rfl (by simpa [Value.cells] using hl) ?_
  refine Run.callPure pZ qs hI (xE t S cs 120 h (by omega) (by omega) hc) fun w' hI=>?_
  refine gi ?_
  refine eG h1 (done hI ?_)
  rw [db,h1,De]; rfl
 ·rw [db,h1]; rfl

end Go.Proofs.YtfcbhfjomgopbaaGreat

/- slices.IndexFunc and slices.ContainsFunc, whatever function is handed to them. -/
namespace Go.Proofs.YtfcbhfjomgopbaaGreat
open Go Go.RowKit
attribute [local irreducible] Run CondV ak bg

def co {α σ:Type} (step:σ->α->Bool × σ):σ->List α->Nat->Int × σ
 | st,[],_=>(-1,st)
 | st,x::xs,k=>if (step st x).1 then ((k:Int),(step st x).2) else co step (step st x).2 xs (k+1)
def iK {α σ:Type} (step:σ->α->Bool × σ):σ->List α->Bool × σ
 | st,[]=>(false,st)
 | st,x::xs=>if (step st x).1 then (true,(step st x).2) else iK step (step st x).2 xs
theorem iy {α σ:Type} (step:σ->α->Bool × σ):∀ (xs:List α) (st:σ) (k:Nat),decide (0<=(co step st xs k).1)=(iK step st xs).1/\(co step st xs k).2=(iK step st xs).2
 | [],st,k=>by simp [co,iK]
 | x::xs,st,k=>by
  by_cases h:(step st x).1=true
  ·simp [co,iK,h]
  ·simpa [co,iK,h] using iy step xs (step st x).2 (k+1)
theorem mJ {α:Type} (p:α->Bool):∀ xs:List α,iK (σ:=Unit) (fun _ x=>(p x,())) () xs=(xs.any p,())
 | []=>rfl
 | x::xs=>by
  simp only [iK,List.any_cons]
  cases h:p x with
  | true=>rfl
  | false=>rw [mJ p xs]; rfl
abbrev fv (f:FuncId) (cap:List Value):Value:=.func (.func f) #[] cap.toArray
section
variable {P:Program} {w w0:World} {X:List Nat} {A I:List Item} {S:ar} {K:Value->World->Prop}
theorem xV {P:Program} {f:FuncId} {fn:Func} {cap args:List Value} {w:World} (hf:P.funcs[f]?=some fn) (hn:(fn.name == "runtime.NumGoroutine" || fn.body.isNone)=false) :
  (aN (fv f cap) args).run P w=.ok (.enter f (args++cap).toArray) w:=by
 simp only [Bool.or_eq_false_iff] at hn
 have h1:¬ fn.name = "runtime.NumGoroutine" := by simpa using hn.1
 have h2:¬ fn.body=none:=fun e=>by rw [e] at hn; simp at hn
 simp [aN,Deferred.ofValue,invoke,callFunc,hf,h1,h2]
theorem Run.callV {f:FuncId} {fn:Func} {cap args:List Value} {Post:Value->List Item->ar->Prop}
  (hf:P.funcs[f]?=some fn) (hn:(fn.name == "runtime.NumGoroutine" || fn.body.isNone)=false) (h:Inv w0 X (A++I) S w) (hc:Tri P f (args++cap) I S Post)
  (hk:∀ v I' S' w',Post v I' S'->Sle S S'->Inv w0 X (A++I') S' w'->K v w'):Run P (aN (fv f cap) args) w K:=by
 unfold Run
 rw [xV hf hn]
 refine (hc w (h.sub (List.sublist_append_right A I)).begin).mono ?_
 rintro e w' ⟨v,I',S',rfl,hI,hE,hP⟩
 exact hk v I' S' w' hP hE.1 (Inv.step h hI hE.2)
end
/- what a function handed over does to the state that it keeps -/
structure Cb (P:Program) (f:FuncId) (fn:Func) {α σ:Type} (cap:List Value) (S:ar) (It:σ->List Item) (ok:σ->Prop) (step:σ->α->Bool × σ) (R:Value->α->Prop) (xs:List α):Prop where
 hf:P.funcs[f]?=some fn
 hn:(fn.name == "runtime.NumGoroutine" || fn.body.isNone)=false
 keep:∀ st x,x∈xs->ok st->(step st x).1=false->ok (step st x).2
 call:∀ st x v,x∈xs->ok st->R v x->Tri P f (v::cap) (It st) S fun r I' S'=>r=.bool (step st x).1/\I'=It (step st x).2/\S'=S
/- a function that only reads, handed over -/
theorem Cb.pure {P:Program} {f:FuncId} {fn:Func} {α:Type} {cap:List Value} {S:ar} {p:α->Bool} {R:Value->α->Prop} {xs:List α} (L:List Item) (hf:P.funcs[f]?=some fn) (hn:(fn.name == "runtime.NumGoroutine" || fn.body.isNone)=false)
  (h:∀ x v,x∈xs->R v x->Tri P f (v::cap) L S fun r I' S'=>r=.bool (p x)/\I'=L/\S'=S):Cb P f fn cap S (fun _:Unit=>L) (fun _=>True) (fun _ x=>(p x,())) R xs:=
 ⟨hf,hn,fun _ _ _ _ _=>trivial,fun _ x v hx _ hR=>h x v hx hR⟩

theorem oS {σ:Type} {f:FuncId} {fn:Func} {cap:List Value} {S:ar} {It:σ->List Item} {ok:σ->Prop} {step:σ->T->Bool × σ} {xs:List T} {v:Value}
  (hcb:Cb Tryz.prog f fn cap S It ok step (fun v x=>∃ cs,v=.agg cs.toArray/\RdT S cs x) xs) (h:RdSl S 4 (RdT S) v xs) {st:σ} (hok:ok st) :
  Tri Tryz.prog iF [v,fv f cap] (It st) S fun r I' S'=>r=.int .i64 (co step st xs 0).1/\I'=It (co step st xs 0).2/\S'=S:=by
 intro w hI
 have hlen:=h.le
 simp only [maxLen] at hlen
 refine f4 ?_
 unfold fg
 refine a5 h aC ?_
 refine ⟨fun i w'=>∃ (k:Nat) (st':σ),k<=xs.length/\i=.int .i64 k/\ok st'/\co step st' (xs.drop k) k=co step st xs 0/\Inv w (bv (It st)) (It st') S w',fun i _=>xs.length - (intOf i).toNat,
  ⟨0,st,Nat.zero_le _,rfl,hok,rfl,hI⟩,?_⟩
 intro t8 _ _ _ _ _ _ _ _ _ _ _ _ w'
 rintro ⟨k,st',hk,rfl,hok',hrel,hI⟩
 refine bz ?_
 refine bf (fun hki=>?_) (fun hki=>?_)
 ·have hk':k<xs.length:=by omega
  have hm:=List.getElem_mem hk'
  have hstep:co step st' (xs.drop k) k=if (step st' xs[k]).1 then ((k:Int),(step st' xs[k]).2) else co step (step st' xs[k]).2 (xs.drop (k+1)) (k+1):=by
   rw [List.drop_eq_getElem_cons hk',co]
  refine cj hI h aC al hk' (fun _ _=>RdT.length) fun cs hcs=>?_
  refine Run.callV (A:=[]) (args:=[.agg cs.toArray]) hcb.hf hcb.hn (by simpa using hI) (hcb.call st' _ _ hm hok' ⟨cs,rfl,hcs⟩) fun v' I' S' w'=>?_
  rintro ⟨rfl,rfl,rfl⟩ _ hI
  refine bd (fun hb=>?_) (fun hb=>?_)
  ·rw [if_pos hb] at hstep
   refine ⟨_,_,_,rfl,by simpa using hI,Ext.refl _ _ _,?_,?_,rfl⟩
   ·rw [<- hrel,hstep]
   ·rw [<- hrel,hstep]
  ·refine b0 (by omega) ?_
   rw [hb] at hstep
   refine ⟨⟨k+1,_,hk',rfl,hcb.keep st' _ hm hok' hb,?_,by simpa using hI⟩,by simp [intOf]; omega⟩
   rw [<- hrel,hstep]
   rfl
 ·have:k=xs.length:=by omega
  subst this
  rw [List.drop_length,co] at hrel
  exact ⟨_,_,_,rfl,hI,Ext.refl _ _ _,by rw [<- hrel],by rw [<- hrel],rfl⟩
theorem gN {σ:Type} {f:FuncId} {fn:Func} {cap:List Value} {S:ar} {It:σ->List Item} {ok:σ->Prop} {step:σ->T->Bool × σ} {xs:List T} {v:Value}
  (hcb:Cb Tryz.prog f fn cap S It ok step (fun v x=>∃ cs,v=.agg cs.toArray/\RdT S cs x) xs) (h:RdSl S 4 (RdT S) v xs) {st:σ} (hok:ok st) :
  Tri Tryz.prog gf [v,fv f cap] (It st) S fun r I' S'=>r=.bool (iK step st xs).1/\I'=It (iK step st xs).2/\S'=S:=by
 intro w hI
 refine fa ?_
 unfold ej
 refine Run.call (A:=[]) g6 hH (by simpa using hI) (oS hcb h hok) fun v' I' S' w'=>?_
 rintro ⟨rfl,rfl,rfl⟩ _ hI
 refine g5 ?_
 have he:=iy step xs st 0
 exact ⟨_,_,_,rfl,by simpa using hI,Ext.refl _ _ _,by rw [he.1],by rw [he.2],rfl⟩
theorem mU {σ:Type} {f:FuncId} {fn:Func} {cap:List Value} {S:ar} {It:σ->List Item} {ok:σ->Prop} {step:σ->C->Bool × σ} {xs:List C} {v:Value}
  (hcb:Cb Tryz.prog f fn cap S It ok step (fun v x=>∃ cs,v=.agg cs.toArray/\RdC S cs x) xs) (h:RdSl S 5 (RdC S) v xs) {st:σ} (hok:ok st) :
  Tri Tryz.prog mB [v,fv f cap] (It st) S fun r I' S'=>r=.int .i64 (co step st xs 0).1/\I'=It (co step st xs 0).2/\S'=S:=by
 intro w hI
 have hlen:=h.le
 simp only [maxLen] at hlen
 refine je ?_
 unfold ge
 refine a5 h bI ?_
 refine ⟨fun i w'=>∃ (k:Nat) (st':σ),k<=xs.length/\i=.int .i64 k/\ok st'/\co step st' (xs.drop k) k=co step st xs 0/\Inv w (bv (It st)) (It st') S w',fun i _=>xs.length - (intOf i).toNat,
  ⟨0,st,Nat.zero_le _,rfl,hok,rfl,hI⟩,?_⟩
 intro t8 _ _ _ _ _ _ _ _ _ _ _ _ w'
 rintro ⟨k,st',hk,rfl,hok',hrel,hI⟩
 refine bz ?_
 refine bf (fun hki=>?_) (fun hki=>?_)
 ·have hk':k<xs.length:=by omega
  have hm:=List.getElem_mem hk'
  have hstep:co step st' (xs.drop k) k=if (step st' xs[k]).1 then ((k:Int),(step st' xs[k]).2) else co step (step st' xs[k]).2 (xs.drop (k+1)) (k+1):=by
   rw [List.drop_eq_getElem_cons hk',co]
  refine cj hI h bI dd hk' (fun _ _=>RdC.length) fun cs hcs=>?_
  refine Run.callV (A:=[]) (args:=[.agg cs.toArray]) hcb.hf hcb.hn (by simpa using hI) (hcb.call st' _ _ hm hok' ⟨cs,rfl,hcs⟩) fun v' I' S' w'=>?_
  rintro ⟨rfl,rfl,rfl⟩ _ hI
  refine bd (fun hb=>?_) (fun hb=>?_)
  ·rw [if_pos hb] at hstep
   refine ⟨_,_,_,rfl,by simpa using hI,Ext.refl _ _ _,?_,?_,rfl⟩
   ·rw [<- hrel,hstep]
   ·rw [<- hrel,hstep]
  ·refine b0 (by omega) ?_
   rw [hb] at hstep
   refine ⟨⟨k+1,_,hk',rfl,hcb.keep st' _ hm hok' hb,?_,by simpa using hI⟩,by simp [intOf]; omega⟩
   rw [<- hrel,hstep]
   rfl
 ·have:k=xs.length:=by omega
  subst this
  rw [List.drop_length,co] at hrel
  exact ⟨_,_,_,rfl,hI,Ext.refl _ _ _,by rw [<- hrel],by rw [<- hrel],rfl⟩
theorem kT {σ:Type} {f:FuncId} {fn:Func} {cap:List Value} {S:ar} {It:σ->List Item} {ok:σ->Prop} {step:σ->C->Bool × σ} {xs:List C} {v:Value}
  (hcb:Cb Tryz.prog f fn cap S It ok step (fun v x=>∃ cs,v=.agg cs.toArray/\RdC S cs x) xs) (h:RdSl S 5 (RdC S) v xs) {st:σ} (hok:ok st) :
  Tri Tryz.prog j2 [v,fv f cap] (It st) S fun r I' S'=>r=.bool (iK step st xs).1/\I'=It (iK step st xs).2/\S'=S:=by
 intro w hI
 refine ia ?_
 unfold fx
 refine Run.call (A:=[]) ln lm (by simpa using hI) (mU hcb h hok) fun v' I' S' w'=>?_
 rintro ⟨rfl,rfl,rfl⟩ _ hI
 refine g5 ?_
 have he:=iy step xs st 0
 exact ⟨_,_,_,rfl,by simpa using hI,Ext.refl _ _ _,by rw [he.1],by rw [he.2],rfl⟩

end Go.Proofs.YtfcbhfjomgopbaaGreat

/- The program's TermValid and what it calls. -/
namespace Go.Proofs.YtfcbhfjomgopbaaGreat
open Go Go.RowKit
attribute [local irreducible] Run CondV ak bg

theorem eN (n low high:Int) (S:ar):Pure Tryz.prog B5 [.int .i64 n,.int .i64 low,.int .i64 high] S (.bool (decide (low<=n) && decide (n<=high))):=by
 intro w hI
 refine wh ?_
 unfold sv
 refine gi ?_
 refine gg (fun h=>?_) (fun h=>done hI (by rw [h]; rfl))
 refine gi ?_
 exact eG h (done hI (by rw [h]; rfl))
theorem lb (s:ByteArray) (hs:s.size<=maxLen) (S:ar):Pure Tryz.prog xK [.string s] S (.bool (iU s)):=by
 intro w hI
 simp only [maxLen] at hs
 refine qF ?_
 unfold lU
 refine ki dX ?_
 refine ⟨fun i w'=>∃ k:Nat,k<=s.size/\i=.int .i64 k/\(s.data.toList.drop k).all me=mc s/\Inv w [] [] S w',fun i _=>s.size - (intOf i).toNat,⟨0,Nat.zero_le _,rfl,rfl,hI⟩,?_⟩
 intro t6 _ _ _ _ _ _ _ _ _ _ _ _ _ _ _ w'
 rintro ⟨k,hk,rfl,hrel,hI⟩
 refine bz ?_
 refine bf (fun hki=>?_) (fun hki=>?_)
 ·have hk':k<s.size:=by omega
  have hstep:=AC me s.data.toList k (by rw [jJ]; exact hk')
  rw [zO s k hk'] at hstep
  refine ⟨fun t w'=>t=.bool (!me s[k])/\Inv w [] [] S w',?_,?_⟩
  ·refine kL dX hk' ?_
   refine bz ?_
   refine pT (fun h=>⟨?_,hI⟩) (fun h=>?_)
   ·have h:=of_decide_eq_true h
    rw [me,decide_eq_false (show ¬ 97<=s[k].toNat by omega)]; rfl
   ·refine kL dX hk' ?_
    refine hG ?_
    refine jM h ⟨?_,hI⟩
    have h:=of_decide_eq_false h
    rw [me,decide_eq_true (show 97<=s[k].toNat by omega),Bool.true_and]
    by_cases h2:s[k].toNat<=122
    ·rw [decide_eq_true h2,decide_eq_false (by omega)]; rfl
    ·rw [decide_eq_false h2,decide_eq_true (by omega)]; rfl
  intro t _ _ _ _ _ _ _ _ _ w'
  rintro ⟨rfl,hI⟩
  refine bd (fun h=>done hI ?_) (fun h=>?_)
  ·simp at h
   rw [iU,<- hrel,hstep,h]; rfl
  ·simp at h
   refine b0 (by omega) ?_
   refine ⟨⟨k+1,hk',rfl,by rw [<- hrel,hstep,h]; rfl,hI⟩,by simp [intOf]; omega⟩
 ·have:k=s.size:=by omega
  subst this
  have hl:mc s=true:=by rw [<- hrel,<- jJ,List.drop_length]; rfl
  refine ki dX ?_
  refine Run.callPure fH fL hI (eN _ _ _ S) fun w' hI=>done hI ?_
  rw [iU,hl,Bool.true_and]
  congr 1
  rw [Bool.eq_iff_iff]
  simp
  omega
theorem xj (S:ar):Tri Tryz.prog A1 [] [] S (yc S):=by
 intro w hI
 refine tA ?_
 unfold oR
 refine B2 (v:=fun b=>.slice (some ⟨b,0,none⟩) 15 15) (o:=.cells rL pC) hI (by kernel_rfl) fun b w' hI=>?_
 have hnew:w.heap.size<=b:=by
  rcases hI.new b (by simp [bv,Item.foot]) with h|h
  ·simp [bv] at h
  ·exact h
 obtain ⟨h1,h2⟩:=Inv.publishLast (L:=[]) hI
 exact ⟨_,_,_,rfl,h1,Ba hnew h2,rfl,h2,AO (by simp [mi]; rfl)⟩
theorem n2 (s:ByteArray) {xs:List ByteArray} {S:ar} {v:Value} (h:RdSl S 1 x2 v xs) :
  Pure Tryz.prog rp [v,.string s] S (.int .i64 (co (σ:=Unit) (fun _ x=>(decide (x=s),())) () xs 0).1):=by
 intro w hI
 have hlen:=h.le
 simp only [maxLen] at hlen
 refine lL ?_
 unfold iY
 refine a5 h kD ?_
 refine ⟨fun i w'=>∃ k:Nat,k<=xs.length/\i=.int .i64 k/\co (σ:=Unit) (fun _ x=>(decide (x=s),())) () (xs.drop k) k=co (σ:=Unit) (fun _ x=>(decide (x=s),())) () xs 0/\Inv w [] [] S w',
  fun i _=>xs.length - (intOf i).toNat,⟨0,Nat.zero_le _,rfl,rfl,hI⟩,?_⟩
 intro t8 _ _ _ _ _ _ _ _ _ _ _ _ w'
 rintro ⟨k,hk,rfl,hrel,hI⟩
 refine bz ?_
 refine bf (fun hki=>?_) (fun hki=>?_)
 ·have hk':k<xs.length:=by omega
  rw [List.drop_eq_getElem_cons hk',co] at hrel
  refine kw hI h kD bk hk' (fun cs hcs=>hcs) ?_
  refine bm ?_
  refine bf (fun he=>done hI ?_) (fun he=>?_)
  ·rw [<- hrel,if_pos (by simpa using he.symm)]
  ·refine b0 (by omega) ?_
   rw [if_neg (by simpa using fun e=>he e.symm)] at hrel
   exact ⟨⟨k+1,hk',rfl,hrel,hI⟩,by simp [intOf]; omega⟩
 ·have:k=xs.length:=by omega
  subst this
  rw [List.drop_length,co] at hrel
  exact done hI (by rw [<- hrel])
theorem eq (s:ByteArray) {xs:List ByteArray} {S:ar} {v:Value} (h:RdSl S 1 x2 v xs) :
  Pure Tryz.prog na [v,.string s] S (.bool (xs.any fun x=>decide (x=s))):=by
 intro w hI
 refine j4 ?_
 unfold gT
 refine Run.callPure pS qv hI (n2 s h) fun w' hI=>?_
 refine g5 (done hI ?_)
 rw [(iy _ xs () 0).1,mJ]
theorem qW (s:ByteArray) (hs:s.size<=maxLen) (S:ar):Pure Tryz.prog xm [.string s] S (.bool (jC s)):=by
 intro w hI
 refine pR ?_
 unfold l3
 refine Run.callPure mz ml hI (lb s hs S) fun w' hI=>?_
 refine pT (fun h=>done hI ?_) (fun h=>?_)
 ·rw [jC,h]; rfl
 ·refine Run.call0 y8 y7 hI (xj S) fun v' I' S' w'=>?_
  rintro ⟨rfl,_,hr⟩ hle hI
  refine Run.callPure eD eE hI (eq s hr) fun w' hI=>?_
  refine jM h (g9 hI hle ?_)
  rw [jC,h]; rfl

abbrev dW (b:Nat) (c:Int):Item:=.blk b (.cells #[.int .i64 c] ce)
abbrev jD (bc:Nat) (S:ar) (r:Bool × Int):Value->List Item->ar->Prop:=fun v I' S'=>v=.bool r.1/\I'=[dW bc r.2]/\S'=S
theorem zW:∀ (t:T) (deep c:Int),c<=120->(ec t deep c).1=true->c<(ec t deep c).2/\(ec t deep c).2<=120:=by
 intro t deep c hc h
 have:=uX t deep c
 rw [this.2 h]
 have h1:=this.1
 rw [h] at h1
 have h2:=h1.symm
 simp at h2
 have:=l8 t
 omega
theorem yw (deep:Int):∀ (ks:List T) (c:Int),iK (fun c t=>(!(ec t deep c).1,(ec t deep c).2)) c ks=(!(ix ks deep c).1,(ix ks deep c).2)
 | [],c=>by simp [iK,ix]
 | t::ts,c=>by
  by_cases h:(ec t deep c).1=true
  ·simp [iK,ix,h,yw deep ts]
  ·simp [iK,ix,h]

theorem B8:∀ (t:T) (S:ar) (cs:List Value) (deep c:Int) (bc:Nat),RdT S cs t->0<=deep->deep<=31->0<=c->c<=120->
  Tri Tryz.prog DU [.agg cs.toArray,.int .i64 deep,.pointer (some ⟨bc,0,none⟩)] [dW bc c] S (jD bc S (ec t deep c)):=by
 refine T.ind fun k n s ks ih S cs deep c bc h hd0 hd1 hc0 hc1=>?_
 intro w hI
 obtain ⟨kv,rfl,_,_,hs,hks⟩:=RdT.iff.1 h
 simp only [T.name,T.kids,T.kind,T.n] at hs hks ⊢
 have hend:∀ {L:List Item} {w':World} {v:Value} (r:Bool × Int),Inv w (bv [dW bc c]) (dW bc r.2::L) S w'->v=.bool r.1->r=ec (.mk k n s ks) deep c->
   ∃ v' I' S',Ending.returned v=.returned v'/\Inv w (bv [dW bc c]) I' S' w'/\Ext w.heap.size (bv [dW bc c]) S S'/\jD bc S (ec (.mk k n s ks) deep c) v' I' S':=by
  intro L w' v r h1 h2 h3
  subst h3
  exact ⟨_,_,_,rfl,h1.pick [true],Ext.refl _ _ _,h2,rfl,rfl⟩
 refine zy ?_
 unfold xT;dsimp only
 refine bt hI fun b3 w' hI=>?_
 refine bt hI fun b4 w' hI=>?_
 refine bt hI fun b5 w' hI=>?_
 refine bj hI 3 mE rfl rfl ?_
 refine bR ?_
 refine bj hI 0 aR rfl rfl ?_
 refine b0 (by omega) ?_
 refine bR ?_
 refine gK hI 0 (n:=1) rfl (by rw [aR]; rfl) rfl (Nat.le_of_ble_eq_true rfl) (by simp [Value.cells]; rfl) fun w' hI=>?_
 refine ⟨fun t w'=>t=.bool (decide (120<c+1 ∨ 30<deep))/\Inv w (bv [dW bc c]) [dW bc (c+1),.blk b3 (.cells #[.int .i64 k,.int .i64 n,.string s,kv] ac),.blk b4 (.cells #[.int .i64 deep] ce),.blk b5 (.cells #[.pointer (some ⟨bc,0,none⟩)] fh)] S w',?_,?_⟩
 ·refine bj hI 3 mE rfl rfl ?_
  refine bR ?_
  refine bj hI 0 aR rfl rfl ?_
  refine hG ?_
  refine pT (fun h=>⟨?_,hI⟩) (fun h=>?_)
  ·have h:=of_decide_eq_true h
   rw [decide_eq_true (show 120<c+1 ∨ 30<deep from .inl h)]
  ·refine bj hI 2 aR rfl rfl ?_
   refine hG ?_
   refine jM h ⟨?_,hI⟩
   have h:=of_decide_eq_false h
   congr 1
   rw [Bool.eq_iff_iff]
   simp
   omega
 intro t _ _ _ _ _ _ _ w'
 rintro ⟨rfl,hI⟩
 refine bf (fun hb=>?_) (fun hb=>?_)
 ·exact hend (false,c+1) hI rfl (by rw [ec,if_pos hb])
 have hsc:∀ r,(if k=1 ∨ k=2 then (d3 (.mk k n s ks),c+1) else if k=3 then (if d3 (.mk k n s ks) then ix ks (deep+1) (c+1) else (false,c+1)) else (false,c+1))=r->r=ec (.mk k n s ks) deep c:=by
  intro r hr
  rw [ec,if_neg hb,hr]
 refine ah hI 1 rfl aU aR rfl ?_
 refine bu ?_
 refine bf (fun hk=>?_) (fun hk=>?_)
 ·have ho:d3 (.mk k n s ks)=(decide (0<=n) && (decide (n<=25) && (decide (s=emptyB) && decide (ks.length=0)))):=by
   rw [d3]; exact if_pos hk
  have hfin:∀ {w':World} {b:Bool},Inv w (bv [dW bc c]) [dW bc (c+1),.blk b3 (.cells #[.int .i64 k,.int .i64 n,.string s,kv] ac),.blk b4 (.cells #[.int .i64 deep] ce),.blk b5 (.cells #[.pointer (some ⟨bc,0,none⟩)] fh)] S w'->
    b=d3 (.mk k n s ks)->∃ v' I' S',Ending.returned (.bool b)=.returned v'/\Inv w (bv [dW bc c]) I' S' w'/\Ext w.heap.size (bv [dW bc c]) S S'/\jD bc S (ec (.mk k n s ks) deep c) v' I' S':=
   fun hI hb=>hend (_,c+1) hI (by rw [hb]) (hsc _ (if_pos (.inl hk)))
  refine ah hI 1 rfl a9 aR rfl ?_
  refine Run.callPure fH fL hI (eN _ _ _ S) fun w' hI=>?_
  refine gg (fun h2=>?_) (fun h2=>?_)
  ·have h2':=h2
   rw [Bool.and_eq_true] at h2'
   refine ah hI 1 rfl bi bk rfl ?_
   refine bm ?_
   refine eG h2 ?_
   refine gg (fun h3=>?_) (fun h3=>hfin hI ?_)
   ·refine ah hI 1 rfl aP aO rfl ?_
    refine a5 hks aC ?_
    refine bu ?_
    refine eG h3 (hfin hI ?_)
    rw [ho,h2'.1,h2'.2,show decide (s=emptyB)=true from h3]
    simp
   ·rw [ho,h2'.1,h2'.2,show decide (s=emptyB)=false from h3]; rfl
  ·refine kK (hfin hI ?_)
   rw [ho,<- Bool.and_assoc,h2]; rfl
 refine bu ?_
 refine bf (fun hk2=>?_) (fun hk2=>?_)
 ·have ho:d3 (.mk k n s ks)=(decide (-999<=n) && (decide (n<=999) && (decide (s=emptyB) && decide (ks.length=0)))):=by
   rw [d3]; exact (if_neg hk).trans (if_pos hk2)
  have hfin:∀ {w':World} {b:Bool},Inv w (bv [dW bc c]) [dW bc (c+1),.blk b3 (.cells #[.int .i64 k,.int .i64 n,.string s,kv] ac),.blk b4 (.cells #[.int .i64 deep] ce),.blk b5 (.cells #[.pointer (some ⟨bc,0,none⟩)] fh)] S w'->
    b=d3 (.mk k n s ks)->∃ v' I' S',Ending.returned (.bool b)=.returned v'/\Inv w (bv [dW bc c]) I' S' w'/\Ext w.heap.size (bv [dW bc c]) S S'/\jD bc S (ec (.mk k n s ks) deep c) v' I' S':=
   fun hI hb=>hend (_,c+1) hI (by rw [hb]) (hsc _ (if_pos (.inr hk2)))
  refine ah hI 1 rfl a9 aR rfl ?_
  refine Run.callPure fH fL hI (eN _ _ _ S) fun w' hI=>?_
  refine gg (fun h2=>?_) (fun h2=>?_)
  ·have h2':=h2
   rw [Bool.and_eq_true] at h2'
   refine ah hI 1 rfl bi bk rfl ?_
   refine bm ?_
   refine eG h2 ?_
   refine gg (fun h3=>?_) (fun h3=>hfin hI ?_)
   ·refine ah hI 1 rfl aP aO rfl ?_
    refine a5 hks aC ?_
    refine bu ?_
    refine eG h3 (hfin hI ?_)
    rw [ho,h2'.1,h2'.2,show decide (s=emptyB)=true from h3]
    simp
   ·rw [ho,h2'.1,h2'.2,show decide (s=emptyB)=false from h3]; rfl
  ·refine kK (hfin hI ?_)
   rw [ho,<- Bool.and_assoc,h2]; rfl
 refine bu ?_
 have hk12:¬ (k=1 ∨ k=2):=fun h=>h.elim hk hk2
 refine bf (fun hk3=>?_) (fun hk3=>?_)
 ·have ho:d3 (.mk k n s ks)=(decide (n=0) && (jC s && decide (ks.length<=4))):=by
   rw [d3]; exact (if_neg hk).trans ((if_neg hk2).trans (if_pos hk3))
  refine ⟨fun t w'=>t=.bool (!d3 (.mk k n s ks))/\Inv w (bv [dW bc c]) [dW bc (c+1),.blk b3 (.cells #[.int .i64 k,.int .i64 n,.string s,kv] ac),.blk b4 (.cells #[.int .i64 deep] ce),.blk b5 (.cells #[.pointer (some ⟨bc,0,none⟩)] fh)] S w',?_,?_⟩
  ·refine ah hI 1 rfl a9 aR rfl ?_
   refine bQ ?_
   refine pT (fun h1=>?_) (fun h1=>?_)
   ·have h1':decide (n=0)=false:=by simpa using h1
    refine FV ⟨?_,hI⟩
    rw [ho,h1']; rfl
   ·have h1':decide (n=0)=true:=by simpa using h1
    refine ah hI 1 rfl bi bk rfl ?_
    refine Run.callPure vY u9 hI (qW s hs S) fun w' hI=>?_
    refine bJ ?_
    refine jM h1 ?_
    refine pT (fun h2=>⟨?_,hI⟩) (fun h2=>?_)
    ·have h2':jC s=false:=by simpa using h2
     rw [ho,h1',h2']; rfl
    ·have h2':jC s=true:=by simpa using h2
     refine ah hI 1 rfl aP aO rfl ?_
     refine a5 hks aC ?_
     refine hG ?_
     refine jM h2 ⟨?_,hI⟩
     rw [ho,h1',h2',Bool.true_and,Bool.true_and]
     congr 1
     rw [Bool.eq_iff_iff]
     simp
     omega
  intro t _ _ _ _ _ _ _ _ _ _ _ _ _ _ w'
  rintro ⟨rfl,hI⟩
  refine bd (fun hb1=>?_) (fun hb1=>?_)
  ·have hb1':d3 (.mk k n s ks)=false:=by simpa using hb1
   exact hend (false,c+1) hI rfl (hsc _ (by rw [if_neg hk12,if_pos hk3,hb1']; rfl))
  ·have hb1':d3 (.mk k n s ks)=true:=by simpa using hb1
   refine ah hI 1 rfl aP aO rfl ?_
   refine oA ?_
   have hcb:Cb Tryz.prog Bo Tryz.f142 [.pointer (some ⟨b4,0,none⟩),.pointer (some ⟨b5,0,none⟩)] S
     (fun c:Int=>[dW bc c,.blk b4 (.cells #[.int .i64 deep] ce),.blk b5 (.cells #[.pointer (some ⟨bc,0,none⟩)] fh)]) (fun c=>0<=c/\c<=120)
     (fun c t=>(!(ec t (deep+1) c).1,(ec t (deep+1) c).2)) (fun v x=>∃ cs,v=.agg cs.toArray/\RdT S cs x) ks:=by
    refine ⟨Ab,z0,fun st x _ hst hf=>?_,fun st x v hx hst=>?_⟩
    ·have:=zW x (deep+1) st hst.2 (by simpa using hf)
     omega
    ·rintro ⟨cs,rfl,hcs⟩ w1 hI
     have hl:=hcs.length
     refine wa ?_
     unfold si
     refine bt hI fun b w' hI=>?_
     refine a8 hI 3 al rfl (by simpa [Value.cells] using hl) ?_
     refine bj hI 1 aR rfl rfl ?_
     refine b0 (by omega) ?_
     refine bj hI 2 mE rfl rfl ?_
     have hI:=hI.perm (M:=[.blk b4 (.cells #[.int .i64 deep] ce),.blk b5 (.cells #[.pointer (some ⟨bc,0,none⟩)] fh),.blk b (.cells (Value.agg cs.toArray).cells ac)]++[dW bc st])
      (List.perm_append_comm (l₁:=[_,_,_]) (l₂:=[dW bc st]))
     refine Run.call x3 x1 hI (ih x hx S cs (deep+1) st bc hcs (by omega) (by omega) hst.1 hst.2) fun v' I' S' w'=>?_
     rintro ⟨rfl,rfl,rfl⟩ _ hI
     refine bJ ?_
     have hI:=(hI.perm (M:=[dW bc (ec x (deep+1) st).2]++[.blk b4 (.cells #[.int .i64 deep] ce),.blk b5 (.cells #[.pointer (some ⟨bc,0,none⟩)] fh),.blk b (.cells (Value.agg cs.toArray).cells ac)])
      List.perm_append_comm).pick [true,true,true,false]
     exact ⟨_,_,_,rfl,hI,Ext.refl _ _ _,rfl,rfl,rfl⟩
   have hI:=hI.perm (M:=[.blk b3 (.cells #[.int .i64 k,.int .i64 n,.string s,kv] ac)]++[dW bc (c+1),.blk b4 (.cells #[.int .i64 deep] ce),.blk b5 (.cells #[.pointer (some ⟨bc,0,none⟩)] fh)]) (List.Perm.swap _ _ _)
   refine Run.call ei ek hI (gN hcb hks ⟨by omega,by omega⟩) fun v' I' S' w'=>?_
   rintro ⟨rfl,rfl,rfl⟩ _ hI
   refine bJ ?_
   rw [yw] at hI ⊢
   have hI:=hI.perm (M:=[dW bc (ix ks (deep+1) (c+1)).2,.blk b3 (.cells #[.int .i64 k,.int .i64 n,.string s,kv] ac),.blk b4 (.cells #[.int .i64 deep] ce),.blk b5 (.cells #[.pointer (some ⟨bc,0,none⟩)] fh)]) (List.Perm.swap _ _ _)
   refine hend (ix ks (deep+1) (c+1)) hI (by simp) (hsc _ (by rw [if_neg hk12,if_pos hk3,hb1']; rfl))
 ·exact hend (false,c+1) hI rfl (hsc _ (by rw [if_neg hk12,if_neg hk3]))

theorem gu {t:T} {S:ar} {cs:List Value} (h:RdT S cs t):Pure Tryz.prog wI [.agg cs.toArray] S (.bool (db t)):=by
 intro w hI
 have hl:=h.length
 refine pt ?_
 unfold mC
 refine bt hI fun b1 w' hI=>?_
 refine bC hI DO fun b2 w' hI=>?_
 refine gK hI 1 (n:=1) rfl (by rw [aR]; rfl) rfl (Nat.le_of_ble_eq_true rfl) (by simp [Value.cells]; rfl) fun w' hI=>?_
 refine a8 hI 0 al rfl (by simpa [Value.cells] using hl) ?_
 refine Run.call (A:=[_]) (I:=[dW b2 0]) x3 x1 hI (B8 t S cs 1 0 b2 h (by omega) (by omega) (by omega) (by omega)) fun v' I' S' w'=>?_
 rintro ⟨rfl,rfl,rfl⟩ _ hI
 exact done hI (by rw [Bp])

end Go.Proofs.YtfcbhfjomgopbaaGreat
