/- Data that a function has made for itself: trees of blocks that nobody else knows. -/
import Derived.Test.YtfcbhfjomgopbaaGreatZT1S
import Derived.Test.YtfcbhfjomgopbaaGreatZT1F
import Derived.Test.YtfcbhfjomgopbaaGreatZT1h1
namespace Go.Proofs.YtfcbhfjomgopbaaGreat
open Go Go.RowKit
attribute [local irreducible] Run CondV ag aO

abbrev bG:=List (Nat × Obj)
def bV (L:bG):List Item:=L.map fun p=>.blk p.1 p.2
theorem eF (L M:bG):bV (L++M)=bV L++bV M:=by simp [bV]
def Ins (S:al) (L:bG):Prop:=∀ p∈L,S p.1=some p.2
theorem Ins.mono {S S':al} {L:bG} (h:Ins S L) (hs:Sle S S'):Ins S' L:=fun p hp=>hs _ _ (h p hp)
theorem Ins.left {S:al} {L M:bG} (h:Ins S (L++M)):Ins S L:=fun p hp=>h p (List.mem_append_left _ hp)
theorem Ins.right {S:al} {L M:bG} (h:Ins S (L++M)):Ins S M:=fun p hp=>h p (List.mem_append_right _ hp)
theorem gS {L:bG} {b:Nat}:b∈bW (bV L)↔∃ p∈L,p.1=b:=by
 simp only [bW,bV,List.mem_flatMap,List.mem_map]
 constructor
 ·rintro ⟨it,⟨p,hp,rfl⟩,hb⟩
  simp only [Item.foot,List.mem_singleton] at hb
  exact ⟨p,hp,hb.symm⟩
 ·rintro ⟨p,hp,rfl⟩
  exact ⟨_,⟨p,hp,rfl⟩,by simp [Item.foot]⟩

theorem Inv.publishAll {w0 w:World} {X:List Nat} {A:List Item}:∀ (L:bG) {S:al},Inv w0 X (A++bV L) S w->
  ∃ S',Inv w0 X A S' w/\Sle S S'/\Ins S' L/\∀ b o,S' b=some o->S b=some o ∨ b∈bW (bV L)
 | [],S,h=>⟨S,by simpa [bV] using h,Sle.refl S,by intro p hp; simp at hp,fun b o hb=>.inl hb⟩
 | p::L,S,h=>by
  have hi:(A++bV (p::L))[A.length]?=some (.blk p.1 p.2):=by simp [bV]
  obtain ⟨h1,h2⟩:=h.publish hi
  have he:(A++bV (p::L)).eraseIdx A.length=A++bV L:=by simp [bV,List.eraseIdx_append_of_length_le]
  rw [he] at h1
  obtain ⟨S',h3,h4,h5,h6⟩:=publishAll L h1
  refine ⟨S',h3,h2.trans h4,fun q hq=>?_,fun b o hb=>?_⟩
  ·rcases List.mem_cons.1 hq with rfl|hq
   ·exact h4 _ _ (by simp [lS])
   ·exact h5 q hq
  ·rcases h6 b o hb with h7|h7
   ·simp only [lS] at h7
    split at h7
    ·rename_i e; right; rw [gS]; exact ⟨p,List.mem_cons_self ..,e.symm⟩
    ·exact .inl h7
   ·right
    obtain ⟨q,hq,e⟩:=gS.1 h7
    exact gS.2 ⟨q,List.mem_cons_of_mem _ hq,e⟩

/- a slice of elements, its array and all behind it being the function's own -/
def TrSl {α:Type} (k:Nat) (R:bG->List Value->α->Prop) (L:bG) (v:Value) (xs:List α):Prop:=
 ∃ a cap,v=.slice a xs.length cap/\xs.length<=cap/\cap<=maxLen/\
  ((xs=[]/\L=[]) ∨ ∃ b c E,∃ Ls:List bG,a=some ⟨b,0,none⟩/\L=(b,.cells c E)::Ls.flatten/\Ls.length=xs.length/\cap * k<=c.size/\
   ∀ i (h:i<xs.length) (h':i<Ls.length),R Ls[i] (bm c (i * k) k) xs[i])
inductive TrT:bG->List Value->T->Prop
 | nil {k n:Int} {s:ByteArray} {a:Option Addr} {cap:Nat} (hk:inI k) (hn:inI n) (hs:s.size<=maxLen) (hc:cap<=maxLen) :
   TrT [] [.int .i64 k,.int .i64 n,.string s,.slice a 0 cap] (.mk k n s [])
 | cons {k n:Int} {s:ByteArray} {kids:List T} {b cap:Nat} {c:Array Value} {E:TypeId} {Ls:List bG} (hk:inI k) (hn:inI n) (hs:s.size<=maxLen) (hl:kids.length<=cap) (hc:cap<=maxLen)
   (hLs:Ls.length=kids.length) (hsz:cap * 4<=c.size) (h:∀ i (h:i<kids.length) (h':i<Ls.length),TrT Ls[i] (bm c (i * 4) 4) kids[i]) :
   TrT ((b,.cells c E)::Ls.flatten) [.int .i64 k,.int .i64 n,.string s,.slice (some ⟨b,0,none⟩) kids.length cap] (.mk k n s kids)
theorem TrT.iff {L:bG} {cs:List Value} {t:T}:TrT L cs t ↔
  ∃ ks,cs=[.int .i64 t.kind,.int .i64 t.n,.string t.name,ks]/\inI t.kind/\inI t.n/\t.name.size<=maxLen/\TrSl 4 TrT L ks t.kids:=by
 constructor
 ·intro h
  cases h with
  | nil hk hn hs hc=>exact ⟨_,rfl,hk,hn,hs,_,_,rfl,Nat.zero_le _,hc,.inl ⟨rfl,rfl⟩⟩
  | cons hk hn hs hl hc hLs hsz h=>exact ⟨_,rfl,hk,hn,hs,_,_,rfl,hl,hc,.inr ⟨_,_,_,_,rfl,rfl,hLs,hsz,h⟩⟩
 ·obtain ⟨k,n,s,kids⟩:=t
  rintro ⟨ks,rfl,hk,hn,hs,a,cap,rfl,hl,hc,h⟩
  rcases h with ⟨h,rfl⟩|⟨b,c,E,Ls,rfl,rfl,hLs,hsz,h⟩
  ·simp only [T.kids] at h
   subst h
   exact TrT.nil hk hn hs hc
  ·exact TrT.cons hk hn hs hl hc hLs hsz h
theorem TrT.length {L:bG} {cs:List Value} {t:T} (h:TrT L cs t):cs.length=4:=by
 obtain ⟨ks,rfl,_⟩:=TrT.iff.1 h; rfl
theorem TrT.one {L:bG} {cs:List Value} {t:T} (h:TrT L cs t):∀ u∈cs,u.oneCell'=true:=by
 obtain ⟨ks,rfl,_,_,_,a,cap,rfl,_⟩:=TrT.iff.1 h
 intro u hu
 simp at hu
 rcases hu with rfl|rfl|rfl|rfl <;> rfl
theorem RdT.one {S:al} {cs:List Value} {t:T} (h:RdT S cs t):∀ u∈cs,u.oneCell'=true:=by
 obtain ⟨ks,rfl,_,_,_,a,cap,rfl,_⟩:=RdT.iff.1 h
 intro u hu
 simp at hu
 rcases hu with rfl|rfl|rfl|rfl <;> rfl
theorem wO {S:al} {Ls:List bG} (h:Ins S Ls.flatten) {i:Nat} (hi:i<Ls.length):Ins S Ls[i]:=
 fun p hp=>h p (List.mem_flatten.2 ⟨_,List.getElem_mem hi,hp⟩)
theorem TrSl.rd {α:Type} {S:al} {k:Nat} {R:bG->List Value->α->Prop} {R':List Value->α->Prop} {L:bG} {v:Value} {xs:List α} (h:TrSl k R L v xs) (hi:Ins S L)
  (hR:∀ L cs x,Ins S L->R L cs x->R' cs x):RdSl S k R' v xs:=by
 obtain ⟨a,cap,rfl,hl,hc,h⟩:=h
 refine ⟨a,cap,rfl,hl,hc,?_⟩
 rcases h with ⟨h,_⟩|⟨b,c,E,Ls,rfl,rfl,hLs,hsz,h⟩
 ·exact .inl h
 ·refine .inr ⟨b,0,c,E,(0,0),rfl,hi _ (List.mem_cons_self ..),fun i h1=>?_⟩
  rw [Nat.zero_add]
  exact hR _ _ _ (wO (fun p hp=>hi p (List.mem_cons_of_mem _ hp)) (by omega)) (h i h1 (by omega))
theorem TrT.rd {S:al} {L:bG} {cs:List Value} {t:T} (h:TrT L cs t) (hi:Ins S L):RdT S cs t:=by
 induction h with
 | nil hk hn hs hc=>exact RdT.nil hk hn hs hc
 | cons hk hn hs hl hc hLs hsz h ih=>
  refine RdT.cons hk hn hs hl hc (hi _ (List.mem_cons_self ..)) (o:=0) fun i h1=>?_
  rw [Nat.zero_add]
  exact ih i h1 (by omega) (wO (fun p hp=>hi p (List.mem_cons_of_mem _ hp)) (by omega))
def TrC (L:bG) (cs:List Value) (c:C):Prop:=∃ hd ks L1 L2,cs=hd++[ks]/\L=L1++L2/\TrT L1 hd c.head/\TrSl 4 TrT L2 ks c.body
theorem TrC.rd {S:al} {L:bG} {cs:List Value} {c:C} (h:TrC L cs c) (hi:Ins S L):RdC S cs c:=by
 obtain ⟨hd,ks,L1,L2,rfl,rfl,h1,h2⟩:=h
 exact ⟨hd,ks,rfl,h1.rd hi.left,h2.rd hi.right fun _ _ _ hi h=>h.rd hi⟩
theorem TrC.length {L:bG} {cs:List Value} {c:C} (h:TrC L cs c):cs.length=5:=by
 obtain ⟨hd,ks,L1,L2,rfl,rfl,h1,h2⟩:=h; simp [h1.length]
theorem TrC.one {L:bG} {cs:List Value} {c:C} (h:TrC L cs c):∀ u∈cs,u.oneCell'=true:=by
 obtain ⟨hd,ks,L1,L2,rfl,rfl,h1,a,cap,rfl,_⟩:=h
 intro u hu
 rcases List.mem_append.1 hu with hu|hu
 ·exact h1.one u hu
 ·simp at hu; subst hu; rfl

section
variable {P:Program} {w w0:World} {X:List Nat} {L:List Item} {S:al} {K:Value->World->Prop}
theorem Run.call0 {f:FuncId} {fn:Func} {args:List Value} {Post:Value->List Item->al->Prop}
  (hf:P.funcs[f]?=some fn) (hn:(fn.name == "runtime.NumGoroutine" || fn.body.isNone)=false) (h:Inv w0 X L S w) (hc:Tri P f args [] S Post)
  (hk:∀ v I' S' w',Post v I' S'->Sle S S'->Inv w0 X (L++I') S' w'->K v w'):Run P (fN (.func (.func f) #[] #[]) args) w K:=
 Run.call (A:=L) (I:=[]) hf hn (by simpa using h) hc hk
/- x.f = v, x a struct in a block of the function's own -/
theorem cM {T U ty ty' E:TypeId} {f d b:Nat} {c:Array Value} {v:Value} (hI:Inv w0 X L S w) (i:Nat) (hi:L[i]?=some (.blk b (.cells c E))) (hf:bZ P T f=some d) (hU:iw P U=true) (hlt:Nat.blt d c.size=true)
  (hv:v.cells=#[v]) (h1:v.oneCell'=true)
  (hk:∀ w',Inv w0 X (L.set i (.blk b (.cells (c.setIfInBounds d v) E))) S w'->K undef w') :
  Run P (sOp (.fieldAddr T (.const (.pointer (some ⟨b,0,none⟩))) f) ty) w fun q w'=>Run P (sOp (.store U (.const q) (.const v)) ty') w' K:=by
 have hlt:d<c.size:=by simpa [Nat.blt_eq] using hlt
 refine aI hf ?_
 rw [Nat.zero_add]
 refine dy hI i (n:=1) (by rw [hv]; rfl) (by rw [hU]; rfl) hi (by omega) (by rw [hv]; simpa using h1) fun w' hI'=>hk w' ?_
 have:bM c d v.cells.toList=c.setIfInBounds d v:=by
  rw [hv]
  apply Array.toList_inj.1
  simp only [bM,Array.toList_setIfInBounds]
  have hl:d<c.toList.length:=by simpa using hlt
  rw [List.set_eq_take_append_cons_drop,if_pos hl]
  simp
 rw [this] at hI'
 exact hI'
theorem lV {T ty E:TypeId} {o b n:Nat} {c:Array Value} {v:Value} (hI:Inv w0 X L S w) (i:Nat) (hi:L[i]?=some (.blk b (.cells c E))) (hT:iH P T=some n) (hn:v.cells.size=n) (hfit:Nat.ble (o+n) c.size=true)
  (h1:∀ u∈v.cells.toList,u.oneCell'=true) (hk:∀ w',Inv w0 X (L.set i (.blk b (.cells (bM c o v.cells.toList) E))) S w'->K undef w') :
  Run P (sOp (.store T (.const (.pointer (some ⟨b,o,none⟩))) (.const v)) ty) w K:=
 dy hI i hn (by rw [hT]; simp) hi (Nat.le_of_ble_eq_true hfit) h1 hk
/- x = v, x a whole block of the function's own -/
theorem aG {T ty E:TypeId} {b n:Nat} {c cs:Array Value} (hI:Inv w0 X L S w) (i:Nat) (hi:L[i]?=some (.blk b (.cells c E))) (hT:iH P T=some n) (hn:cs.size=n) (hc:c.size=n)
  (h1:∀ u∈cs.toList,u.oneCell'=true) (hk:∀ w',Inv w0 X (L.set i (.blk b (.cells cs E))) S w'->K undef w') :
  Run P (sOp (.store T (.const (.pointer (some ⟨b,0,none⟩))) (.const (.agg cs))) ty) w K:=by
 refine dy hI i (v:=.agg cs) (n:=n) hn (by rw [hT]; simp) hi (by omega) h1 fun w' hI'=>hk w' ?_
 have:bM c 0 (Value.agg cs).cells.toList=cs:=by
  rw [sk _ _ (by simp [Value.cells,hn,hc])]
  simp [Value.cells]
 rw [this] at hI'
 exact hI'
/- s[i] = v, s a slice of the function's own that begins at its block's head -/
theorem Fg {T U ty ty' E E':TypeId} {k b len cap j:Nat} {c:Array Value} {v:Value} (hI:Inv w0 X L S w) (i:Nat) (hi:L[i]?=some (.blk b (.cells c E'))) (hu:cw P T=some (E,k)) (hU:iH P U=some k)
  (hj:j<len) (hfit:(j+1) * k<=c.size) (hv:v.cells.size=k) (h1:∀ u∈v.cells.toList,u.oneCell'=true)
  (hk:∀ w',Inv w0 X (L.set i (.blk b (.cells (bM c (j * k) v.cells.toList) E'))) S w'->K undef w') :
  Run P (sOp (.indexAddr T (.const (.slice (some ⟨b,0,none⟩) len cap)) (.const (.int .i64 j))) ty) w fun p w'=>Run P (sOp (.store U (.const p) (.const v)) ty') w' K:=by
 refine be hu hj ?_
 rw [Nat.zero_add]
 exact dy hI i (n:=k) hv (by rw [hU]; simp) hi (by rw [Nat.add_mul,Nat.one_mul] at hfit; omega) h1 hk
end

theorem TrSl.nil {α:Type} {k:Nat} {R:bG->List Value->α->Prop} {a:Option Addr} {cap:Nat} (hc:cap<=maxLen):TrSl k R [] (.slice a 0 cap) ([]:List α):=
 ⟨a,cap,rfl,Nat.zero_le _,hc,.inl ⟨rfl,rfl⟩⟩
/- the first k' elements of an array under construction -/
def Part {α:Type} (k:Nat) (R:bG->List Value->α->Prop) (c:Array Value) (Ls:List bG) (xs:List α):Prop:=
 Ls.length=xs.length/\∀ i (h:i<xs.length) (h':i<Ls.length),R Ls[i] (bm c (i * k) k) xs[i]
theorem Part.nil {α:Type} (k:Nat) (R:bG->List Value->α->Prop) (c:Array Value):Part k R c [] ([]:List α):=⟨rfl,fun i h=>by simp at h⟩
theorem Part.snoc {α:Type} {k:Nat} {R:bG->List Value->α->Prop} {c:Array Value} {Ls:List bG} {xs:List α} (h:Part k R c Ls xs) {cs:List Value} {L:bG} {x:α} (hx:R L cs x) (hl:cs.length=k)
  (hfit:(xs.length+1) * k<=c.size):Part k R (bM c (xs.length * k) cs) (Ls++[L]) (xs++[x]):=by
 have hf:xs.length * k+cs.length<=c.size:=by rw [hl]; rw [Nat.add_mul,Nat.one_mul] at hfit; exact hfit
 refine ⟨by simp [h.1],fun i h1 h2=>?_⟩
 by_cases hi:i<xs.length
 ·have h3:i<Ls.length:=by rw [h.1]; exact hi
  rw [List.getElem_append_left h3,List.getElem_append_left hi,gr hf]
  ·exact h.2 i hi h3
  ·left
   have:(i+1) * k<=xs.length * k:=Nat.mul_le_mul_right _ hi
   rw [Nat.add_mul,Nat.one_mul] at this
   exact this
 ·have hi':i=xs.length:=by simp at h1; omega
  subst hi'
  have h3:xs.length=Ls.length:=h.1.symm
  rw [List.getElem_append_right (by omega),List.getElem_append_right (by omega)]
  simp only [h3,Nat.sub_self,List.getElem_cons_zero]
  rw [<- h3,<- hl,fD (by rw [hl] at hf ⊢; exact hf)]
  exact hx
theorem Part.sl {α:Type} {k:Nat} {R:bG->List Value->α->Prop} {b:Nat} {c:Array Value} {E:TypeId} {Ls:List bG} {xs:List α} {cap:Nat} (h:Part k R c Ls xs) (h1:xs.length<=cap) (h2:cap<=maxLen) (h3:cap * k<=c.size) :
  TrSl k R ((b,.cells c E)::Ls.flatten) (.slice (some ⟨b,0,none⟩) xs.length cap) xs:=
 ⟨_,cap,rfl,h1,h2,.inr ⟨b,c,E,Ls,rfl,rfl,h.1,h3,h.2⟩⟩

end Go.Proofs.YtfcbhfjomgopbaaGreat

/- 'and', 'or' as the code has them; slices of strings; a list made of constants. -/
namespace Go.Proofs.YtfcbhfjomgopbaaGreat
open Go Go.RowKit
section
variable {P:Program} {w:World} {K:Value->World->Prop} {ty:TypeId}
theorem ad {b:Bool} {A B:Prop} (h:A):ag (.bool b) b A B:=by unfold ag; simp only [if_true]; exact h
theorem af {c b:Bool} {A B:Prop} (hc:c≠b) (h:B):ag (.bool c) b A B:=by unfold ag; simp only [if_neg hc]; exact h
attribute [local irreducible] Run CondV ag aO
theorem gD {a:Bool} {v:Value} {A:Prop} (ht:a=true->A) (hf:a=false->K (.bool false) w):ag (.bool a) true A (Run P (sOp (.pick (.const (.bool a)) (.const v) (.const (.bool false))) ty) w K):=
 GE ht fun h=>by
  have h':a=false:=by simpa using h
  refine pm ?_
  rw [h']
  exact hf h'
theorem fA {a:Bool} {v u:Value} (ha:a=true) (hk:K v w):Run P (sOp (.pick (.const (.bool a)) (.const v) (.const u)) ty) w K:=by
 refine pm ?_
 rw [ha]
 exact hk
theorem kD {v:Value} {A:Prop} (hk:K (.bool false) w):ag (.bool false) true A (Run P (sOp (.pick (.const (.bool false)) (.const v) (.const (.bool false))) ty) w K):=
 gD (fun h=>by cases h) fun _=>hk
theorem ru {a:Bool} {v:Value} {A:Prop} (ht:a=true->K (.bool true) w) (hf:a=false->A):ag (.bool a) false A (Run P (sOp (.pick (.const (.bool a)) (.const (.bool true)) (.const v)) ty) w K):=
 GE hf fun h=>by
  have h':a=true:=by simpa using h
  refine pm ?_
  rw [h']
  exact ht h'
theorem jQ {a:Bool} {v u:Value} (ha:a=false) (hk:K v w):Run P (sOp (.pick (.const (.bool a)) (.const u) (.const v)) ty) w K:=by
 refine pm ?_
 rw [ha]
 exact hk
theorem Ok {v:Value} {A:Prop} (hk:K (.bool true) w):ag (.bool true) false A (Run P (sOp (.pick (.const (.bool true)) (.const (.bool true)) (.const v)) ty) w K):=
 ru (fun _=>hk) fun h=>by cases h
end

def j8 (cs:List Value) (s:ByteArray):Prop:=cs=[.string s]
def gt (cs:List Value) (n:Int):Prop:=cs=[.int .i64 n]
section
variable {P:Program} {w w0:World} {X:List Nat} {L:List Item} {S:al} {K:Value->World->Prop}
attribute [local irreducible] Run CondV ag aO
/- an operation whose run is known in every world: it makes one block -/
theorem lW (h:Inv w0 X L S w) {s:Sem Next} {v:Nat->Value} {o:Obj} (hr:s.run P w=.ok (.value (v w.heap.size)) { w with heap:=w.heap.push o })
  (hk:∀ b w',Inv w0 X (L++[.blk b o]) S w'->K (v b) w'):Run P s w K:=Run.of hr (hk _ _ (h.alloc o))
/- the last item is published -/
theorem Inv.publishLast {b:Nat} {o:Obj} (h:Inv w0 X (L++[.blk b o]) S w):Inv w0 X L (lS S b o) w/\Sle S (lS S b o):=by
 have hi:(L++[Item.blk b o])[L.length]?=some (.blk b o):=by simp
 have:=h.publish hi
 rwa [show (L++[Item.blk b o]).eraseIdx L.length=L by simp [List.eraseIdx_append_of_length_le]] at this
/- s[i] of a slice of one-cell elements -/
theorem fg {α:Type} {T U ty ty' E:TypeId} {R:List Value->α->Prop} {v u:Value} {xs:List α} (hI:Inv w0 X L S w) (h:RdSl S 1 R v xs) (hu:cw P T=some (E,1)) (hU:iw P U=true)
  {i:Nat} (hi:i<xs.length) (hR:∀ cs,R cs xs[i]->cs=[u]) (hk:K u w) :
  Run P (sOp (.indexAddr T (.const v) (.const (.int .i64 i))) ty) w fun p w'=>Run P (sOp (.load U (.const p)) ty') w' K:=by
 obtain ⟨b,o,cap,c,E',fz,rfl,hS,hr⟩:=h.at_ hi
 refine be hu hi ?_
 refine dc hU ?_ hk
 rw [hI.cellS hS]
 exact bh (hR _ hr) 0 u rfl
end
theorem RdSl.ofCells {α:Type} {S:al} {R:List Value->α->Prop} {b n:Nat} {c:Array Value} {E:TypeId} {fz:Nat × Nat} {xs:List α} (hS:S b=some (.cells c E fz)) (hn:xs.length=n) (hm:n<=maxLen)
  (h:∀ i (h:i<xs.length),R (bm c i 1) xs[i]):RdSl S 1 R (.slice (some ⟨b,0,none⟩) n n) xs:=by
 subst hn
 exact ⟨_,_,rfl,Nat.le_refl _,hm,.inr ⟨b,0,c,E,fz,rfl,hS,fun i hi=>by rw [Nat.zero_add,Nat.mul_one]; exact h i hi⟩⟩

end Go.Proofs.YtfcbhfjomgopbaaGreat

/- Which terms are valid: the two ways of saying it, and that they agree. No program in sight. -/
namespace Go.Proofs.YtfcbhfjomgopbaaGreat
open Go

def signs:List ByteArray:=[⟨#[43]⟩,⟨#[45]⟩,⟨#[42]⟩,⟨#[47,47]⟩,⟨#[61]⟩,⟨#[92,61]⟩,⟨#[61,61]⟩,⟨#[60]⟩,⟨#[62]⟩,⟨#[61,60]⟩,⟨#[62,61]⟩,⟨#[61,58,61]⟩,⟨#[46]⟩,⟨#[91,93]⟩,⟨#[33]⟩]
def mC (b:UInt8):Bool:=decide (97<=b.toNat) && decide (b.toNat<=122)
def lP (s:ByteArray):Bool:=s.data.toList.all mC
def jC (s:ByteArray):Bool:=lP s && (decide (1<=s.size) && decide (s.size<=6))
def ji (s:ByteArray):Bool:=jC s || signs.any fun x=>decide (x=s)
def emptyB:ByteArray:=⟨#[]⟩
def eB (t:T):Bool:=
 if t.kind=1 then decide (0<=t.n) && (decide (t.n<=25) && (decide (t.name=emptyB) && decide (t.kids.length=0)))
 else if t.kind=2 then decide (-999<=t.n) && (decide (t.n<=999) && (decide (t.name=emptyB) && decide (t.kids.length=0)))
 else if t.kind=3 then decide (t.n=0) && (ji t.name && decide (t.kids.length<=4))
 else false
mutual
def fI:T->Int->Bool
 | .mk k n s ks,d=>if d<1 then false else eB (.mk k n s ks) && fJ ks (d - 1)
def fJ:List T->Int->Bool
 | [],_=>true
 | t::ts,d=>fI t d && fJ ts d
end
mutual
def dw:T->Int
 | .mk _ _ _ ks=>1+cU ks
def cU:List T->Int
 | []=>0
 | t::ts=>dw t+cU ts
end
/- the count that stops -/
mutual
def ii:T->Int->Int
 | .mk _ _ _ ks,most=>fu ks 1 most
def fu:List T->Int->Int->Int
 | [],n,_=>n
 | t::ts,n,most=>if n<=most then fu ts (n+ii t (most - n)) most else n
end
def dA (t:T):Bool:=fI t 30 && decide (dw t<=120)

mutual
theorem iY:∀ t:T,1<=dw t
 | .mk _ _ _ ks=>by simp only [dw]; have:=eE ks; omega
theorem eE:∀ ts:List T,0<=cU ts
 | []=>by simp [cU]
 | t::ts=>by simp only [cU]; have:=iY t; have:=eE ts; omega
end
mutual
theorem s4:∀ (t:T) (most:Int),0<=most->(dw t<=most->ii t most=dw t)/\(most<dw t->most<ii t most/\ii t most<=dw t)
 | .mk _ _ _ ks,most,h=>by
  simp only [dw,ii]
  have:=Bi ks 1 most h (by omega)
  exact this
theorem Bi:∀ (ts:List T) (n most:Int),0<=most->1<=n->(n+cU ts<=most->fu ts n most=n+cU ts)/\(most<n+cU ts->most<fu ts n most/\fu ts n most<=n+cU ts)
 | [],n,most,h,h1=>by
  simp only [cU,fu]
  exact ⟨fun _=>by omega,fun _=>by omega⟩
 | t::ts,n,most,h,h1=>by
  simp only [cU,fu]
  have hp:=iY t
  have hl:=eE ts
  by_cases hn:n<=most
  ·rw [if_pos hn]
   have ht:=s4 t (most - n) (by omega)
   by_cases hc:dw t<=most - n
   ·rw [ht.1 hc]
    have hr:=Bi ts (n+dw t) most h (by omega)
    exact ⟨fun h2=>by rw [hr.1 (by omega)]; omega,fun h2=>by have:=hr.2 (by omega); omega⟩
   ·have h3:=ht.2 (by omega)
    have h4:fu ts (n+ii t (most - n)) most=n+ii t (most - n):=by
     cases ts with
     | nil=>rfl
     | cons u us=>rw [fu,if_neg (by omega)]
    rw [h4]
    exact ⟨fun h2=>by omega,fun h2=>by omega⟩
  ·rw [if_neg hn]
   exact ⟨fun h2=>by omega,fun h2=>by omega⟩
end
theorem Jn (t:T):decide (ii t 120<=120)=decide (dw t<=120):=by
 have h:=s4 t 120 (by omega)
 by_cases hc:dw t<=120
 ·rw [h.1 hc]
 ·have:=h.2 (by omega)
  rw [decide_eq_false (by omega),decide_eq_false hc]

/- the scan: it counts as it goes -/
mutual
def eL:T->Int->Int->Bool × Int
 | .mk k n s ks,deep,c=>
  if 120<c+1 ∨ 30<deep then (false,c+1)
  else if k=1 ∨ k=2 then (eB (.mk k n s ks),c+1)
  else if k=3 then (if eB (.mk k n s ks) then i6 ks (deep+1) (c+1) else (false,c+1))
  else (false,c+1)
def i6:List T->Int->Int->Bool × Int
 | [],_,c=>(true,c)
 | t::ts,deep,c=>if (eL t deep c).1 then i6 ts deep (eL t deep c).2 else (false,(eL t deep c).2)
end
theorem Lg {k n:Int} {s:ByteArray} {ks:List T} (h:eB (.mk k n s ks)=true) (hk:k=1 ∨ k=2):ks=[]:=by
 unfold eB at h
 simp only [T.kind,T.n,T.name,T.kids] at h
 rcases hk with rfl|rfl <;> simp at h <;> exact h.2.2.2
theorem Kw {k n:Int} {s:ByteArray} {ks:List T} (h:eB (.mk k n s ks)=true):k=1 ∨ k=2 ∨ k=3:=by
 unfold eB at h
 simp only [T.kind,T.n,T.name,T.kids] at h
 by_cases h1:k=1
 ·exact .inl h1
 ·by_cases h2:k=2
  ·exact .inr (.inl h2)
  ·by_cases h3:k=3
   ·exact .inr (.inr h3)
   ·simp [h1,h2,h3] at h
mutual
theorem yZ:∀ (t:T) (deep c:Int),(eL t deep c).1=(fI t (31 - deep) && decide (c+dw t<=120))/\((eL t deep c).1=true->(eL t deep c).2=c+dw t)
 | .mk k n s ks,deep,c=>by
  have hl:=eE ks
  rw [show dw (T.mk k n s ks)=1+cU ks from rfl]
  simp only [eL,fI]
  by_cases h1:120<c+1 ∨ 30<deep
  ·rw [if_pos h1]
   refine ⟨?_,fun h=>by cases h⟩
   rcases h1 with h1|h1
   ·rw [decide_eq_false (show ¬ (c+(1+cU ks)<=120) by omega),Bool.and_false]
   ·rw [if_pos (show 31 - deep<1 by omega)]; rfl
  ·rw [if_neg h1,if_neg (show ¬ (31 - deep<1) by omega)]
   by_cases h2:k=1 ∨ k=2
   ·rw [if_pos h2]
    cases ho:eB (.mk k n s ks) with
    | false=>exact ⟨rfl,fun h=>by cases h⟩
    | true=>
     have:=Lg ho h2
     subst this
     rw [show cU []=0 from rfl]
     simp only [fJ,Bool.true_and]
     exact ⟨by rw [decide_eq_true (show c+(1+0)<=120 by omega)],fun _=>by omega⟩
   ·rw [if_neg h2]
    by_cases h3:k=3
    ·rw [if_pos h3]
     cases ho:eB (.mk k n s ks) with
     | false=>exact ⟨rfl,fun h=>by cases h⟩
     | true=>
      simp only [if_true,Bool.true_and]
      have:=Ed ks (deep+1) (c+1)
      rw [show 31 - (deep+1)=31 - deep - 1 by omega] at this
      rw [show c+(1+cU ks)=c+1+cU ks by omega]
      refine ⟨?_,this.2⟩
      rw [this.1]
      cases ks with
      | nil=>rw [show cU []=0 from rfl,decide_eq_true (show c+1+0<=120 by omega)]; rfl
      | cons t ts=>simp
    ·rw [if_neg h3]
     have ho:eB (.mk k n s ks)=false:=by
      rw [<- Bool.not_eq_true]
      intro h
      rcases Kw h with e|e|e
      ·exact h2 (.inl e)
      ·exact h2 (.inr e)
      ·exact h3 e
     rw [ho]
     exact ⟨rfl,fun h=>by cases h⟩
theorem Ed:∀ (ts:List T) (deep c:Int),(i6 ts deep c).1=(fJ ts (31 - deep) && (ts.isEmpty || decide (c+cU ts<=120)))/\((i6 ts deep c).1=true->(i6 ts deep c).2=c+cU ts)
 | [],deep,c=>by simp [i6,fJ,cU]
 | t::ts,deep,c=>by
  have ht:=yZ t deep c
  have hp:=eE ts
  rw [show cU (t::ts)=dw t+cU ts from rfl]
  simp only [i6,fJ,List.isEmpty_cons,Bool.false_or]
  cases h1:(eL t deep c).1 with
  | false=>
   rw [h1] at ht
   have h2:=ht.1
   refine ⟨?_,fun h=>by cases h⟩
   simp only [Bool.false_eq_true,if_false]
   cases hs:fI t (31 - deep) with
   | false=>rfl
   | true=>
    rw [hs,Bool.true_and] at h2
    have:¬ (c+dw t<=120):=of_decide_eq_false h2.symm
    rw [decide_eq_false (show ¬ (c+(dw t+cU ts)<=120) by omega),Bool.and_false]
  | true=>
   rw [h1] at ht
   have h2:=ht.1
   have h3:=ht.2 rfl
   simp only [if_true]
   rw [h3]
   have hs:fI t (31 - deep)=true/\c+dw t<=120:=by
    have:=h2.symm
    simpa using this
   have hl:=Ed ts deep (c+dw t)
   rw [show c+(dw t+cU ts)=c+dw t+cU ts by omega]
   refine ⟨?_,hl.2⟩
   rw [hl.1,hs.1,Bool.true_and]
   cases ts with
   | nil=>rw [show cU []=0 from rfl,decide_eq_true (show c+dw t+0<=120 by omega)]; rfl
   | cons u us=>simp
end
theorem Gx (t:T):(eL t 1 0).1=dA t:=by
 rw [(yZ t 1 0).1,dA]
 simp

end Go.Proofs.YtfcbhfjomgopbaaGreat

/- laws.toTerm and its kin: a copy in memory of its own. -/
namespace Go.Proofs.YtfcbhfjomgopbaaGreat
open Go Go.RowKit
attribute [local irreducible] Run CondV ag aO

mutual
def wT:T->Nat
 | .mk _ _ s ks=>s.size+ks.length+wL ks
def wL:List T->Nat
 | []=>0
 | t::ts=>wT t+wL ts
end
theorem jO:∀ {ts:List T} {t:T},t∈ts->wT t<=wL ts
 | x::xs,t,h=>by
  simp only [wL]
  rcases List.mem_cons.1 h with rfl|h
  ·omega
  ·have:=jO h; omega

abbrev Le {α:Type} (k:Nat) (R:bG->List Value->α->Prop) (S:al) (xs:List α):Value->List Item->al->Prop:=
 fun v I' S'=>S'=S/\∃ L,I'=bV L/\TrSl k R L v xs
abbrev Bg (S:al) (t:T):Value->List Item->al->Prop:=fun v I' S'=>S'=S/\∃ cs L,v=.agg cs.toArray/\I'=bV L/\TrT L cs t

theorem yE {ts:List T} (ih:∀ t∈ts,∀ (S:al) (cs:List Value),RdT S cs t->wT t<=1048576->Tri Tryz.prog pn [.agg cs.toArray] [] S (Bg S t))
  {S:al} {v:Value} (h:RdSl S 4 (RdT S) v ts) (hw:ts.length+wL ts<=1048576):Tri Tryz.prog mM [v] [] S (Le 4 TrT S ts):=by
 intro w hI
 refine vx ?_
 unfold sj
 refine bp h s3 ?_
 refine uC hI bO (by omega) (by omega) fun b c w' hc hI=>?_
 refine ⟨fun i w'=>∃ (k:Nat) (c:Array Value) (Ls:List bG),k<=ts.length/\i=.int .i64 k/\c.size=ts.length * 4/\Part 4 TrT c Ls (ts.take k)/\Inv w [] (bV ((b,.cells c ab)::Ls.flatten)) S w',
  fun i _=>ts.length - (intOf i).toNat,⟨0,c,[],Nat.zero_le _,rfl,hc,Part.nil _ _ _,hI⟩,?_⟩
 intro t4 _ _ _ _ _ _ _ _ _ _ _ _ _ _ w'
 rintro ⟨k,c,Ls,hk,rfl,hc,hp,hI⟩
 refine bp h s3 ?_
 refine cg ?_
 refine bz (fun hki=>?_) (fun hki=>?_)
 ·have hk':k<ts.length:=by omega
  have htl:(ts.take k).length=k:=by simp; omega
  refine cJ hI h s3 Ev hk' (fun _ _=>RdT.length) fun cs hcs=>?_
  have hm:=List.getElem_mem hk'
  have hwm:=jO hm
  refine Run.call0 mF mo hI (ih _ hm S cs hcs (by omega)) fun v' I' S' w'=>?_
  rintro ⟨rfl,cs',L,rfl,rfl,hT⟩ _ hI
  refine Fg hI 0 (k:=4) (by rfl) aC ai hk' (by omega) (by simp [Value.cells,hT.length]) (by simpa [Value.cells] using hT.one) fun w' hI=>?_
  refine bT (by omega) ?_
  refine ⟨⟨k+1,bM c (k * 4) cs',Ls++[L],hk',rfl,?_,?_,?_⟩,by simp [intOf]; omega⟩
  ·rw [fO _ _ _ (by rw [hT.length]; omega)]; exact hc
  ·have:=hp.snoc hT hT.length (by rw [htl]; omega)
   rw [htl] at this
   rw [List.take_succ_eq_append_getElem hk']
   exact this
  ·simp only [List.flatten_append,List.flatten_cons,List.flatten_nil,List.append_nil]
   simpa [bV,Value.cells] using hI
 ·have:k=ts.length:=by omega
  subst this
  rw [List.take_length] at hp
  exact ⟨_,_,_,rfl,hI,Ext.refl _ _ _,rfl,_,rfl,hp.sl (Nat.le_refl _) (by simp only [maxLen]; omega) (by omega)⟩

theorem kS:∀ (t:T) (S:al) (cs:List Value),RdT S cs t->wT t<=1048576->Tri Tryz.prog pn [.agg cs.toArray] [] S (Bg S t):=by
 refine T.ind fun k n s ks ih S cs h hw=>?_
 intro w hI
 obtain ⟨kv,rfl,h1,h2,hs,hks⟩:=RdT.iff.1 h
 simp only [T.name,T.kids,T.kind,T.n] at h1 h2 hs hks ⊢
 simp only [wT] at hw
 refine xH ?_
 unfold uV
 refine bS hI fun b1 w' hI=>?_
 refine bi hI bH fun b2 w' hI=>?_
 refine bi hI bH fun b3 w' hI=>?_
 refine ao hI 0 rfl Hi aY rfl ?_
 refine cM hI 2 rfl bC aY rfl rfl rfl fun w' hI=>?_
 refine ao hI 0 rfl GO aY rfl ?_
 refine cM hI 2 rfl bF aY rfl rfl rfl fun w' hI=>?_
 refine ao hI 0 rfl GH bn rfl ?_
 refine cM hI 2 rfl bB bn rfl rfl rfl fun w' hI=>?_
 refine ao hI 0 rfl Gg Bu rfl ?_
 refine Run.call0 kw kI hI (yE ih hks (by omega)) fun v' I' S' w'=>?_
 rintro ⟨rfl,L,rfl,hT⟩ _ hI
 have hv:v'.cells=#[v']/\v'.oneCell'=true:=by obtain ⟨a,cap,rfl,_⟩:=hT; exact ⟨rfl,rfl⟩
 refine cM hI 2 rfl aK aJ rfl hv.1 hv.2 fun w' hI=>?_
 refine aL hI 2 ai rfl rfl ?_
 refine aG hI 1 rfl ai rfl rfl ?_ fun w' hI=>?_
 ·intro u hu
  have hu':u∈([.int .i64 k,.int .i64 n,.string s,v']:List Value):=hu
  simp at hu'
  rcases hu' with rfl|rfl|rfl|rfl <;> first|rfl|exact hv.2
 refine bE hI 1 ai rfl rfl ?_
 refine ⟨_,_,_,rfl,hI.sub (List.sublist_append_right [_,_,_] (bV L)),Ext.refl _ _ _,rfl,[.int .i64 k,.int .i64 n,.string s,v'],L,rfl,rfl,TrT.iff.2 ⟨v',rfl,h1,h2,hs,hT⟩⟩
theorem oc {ts:List T} {S:al} {v:Value} (h:RdSl S 4 (RdT S) v ts) (hw:ts.length+wL ts<=1048576):Tri Tryz.prog mM [v] [] S (Le 4 TrT S ts):=
 yE (fun t _=>kS t) h hw

def wC (c:C):Nat:=wT c.head+c.body.length+wL c.body
def wP:List C->Nat
 | []=>0
 | c::cs=>wC c+wP cs
theorem K9:∀ {cs:List C} {c:C},c∈cs->wC c<=wP cs
 | x::xs,c,h=>by
  simp only [wP]
  rcases List.mem_cons.1 h with rfl|h
  ·omega
  ·have:=K9 h; omega
abbrev MT (S:al) (c:C):Value->List Item->al->Prop:=fun v I' S'=>S'=S/\∃ cs L,v=.agg cs.toArray/\I'=bV L/\TrC L cs c
theorem mt {c:C} {S:al} {cs:List Value} (h:RdC S cs c) (hw:wC c<=1048576):Tri Tryz.prog qF [.agg cs.toArray] [] S (MT S c):=by
 intro w hI
 obtain ⟨hd,ks,rfl,h1,h2⟩:=h
 obtain ⟨kv,rfl,g1,g2,g3,g4⟩:=RdT.iff.1 h1
 unfold wC at hw
 refine tn ?_
 unfold ol
 refine bS hI fun b1 w' hI=>?_
 refine bi hI fo fun b2 w' hI=>?_
 refine bi hI fo fun b3 w' hI=>?_
 refine aI CR ?_
 refine cN hI 0 [.int .i64 c.head.kind,.int .i64 c.head.n,.string c.head.name,kv] Ev rfl rfl ?_ ?_
 ·intro j v hj
  match j with
  | 0|1|2|3=>exact hj
  | j+4=>simp at hj
 refine Run.call0 mF mo hI (kS _ S _ h1 (by omega)) fun v' I' S' w'=>?_
 rintro ⟨rfl,cs1,L1,rfl,rfl,hT1⟩ _ hI
 obtain ⟨kv1,rfl,e1,e2,e3,e4⟩:=TrT.iff.1 hT1
 have hv1:kv1.oneCell'=true:=by obtain ⟨a,cap,rfl,_⟩:=e4; rfl
 refine aI dt ?_
 refine lV hI 2 rfl ai rfl rfl ?_ fun w' hI=>?_
 ·intro u hu
  simp [Value.cells] at hu
  rcases hu with rfl|rfl|rfl|rfl <;> first|rfl|exact hv1
 refine ao hI 0 rfl BW Bu rfl ?_
 refine Run.call0 kw kI hI (oc h2 (by omega)) fun v' I' S' w'=>?_
 rintro ⟨rfl,L2,rfl,hT2⟩ _ hI
 have hv:v'.cells=#[v']/\v'.oneCell'=true:=by obtain ⟨a,cap,rfl,_⟩:=hT2; exact ⟨rfl,rfl⟩
 refine cM hI 2 rfl cD aJ rfl hv.1 hv.2 fun w' hI=>?_
 refine aL hI 2 cr rfl rfl ?_
 refine aG hI 1 rfl cr rfl rfl ?_ fun w' hI=>?_
 ·intro u hu
  have hu':u∈([.int .i64 c.head.kind,.int .i64 c.head.n,.string c.head.name,kv1,v']:List Value):=hu
  simp at hu'
  rcases hu' with rfl|rfl|rfl|rfl|rfl <;> first|rfl|exact hv1|exact hv.2
 refine bE hI 1 cr rfl rfl ?_
 have hI':=hI.sub (List.sublist_append_right [_,_,_] (bV L1++bV L2))
 rw [<- eF] at hI'
 exact ⟨_,_,_,rfl,hI',Ext.refl _ _ _,rfl,[.int .i64 c.head.kind,.int .i64 c.head.n,.string c.head.name,kv1,v'],L1++L2,rfl,rfl,
  [.int .i64 c.head.kind,.int .i64 c.head.n,.string c.head.name,kv1],v',L1,L2,rfl,rfl,hT1,hT2⟩
theorem wx {p:List C} {S:al} {v:Value} (h:RdSl S 5 (RdC S) v p) (hw:p.length+wP p<=1048576):Tri Tryz.prog od [v] [] S (Le 5 TrC S p):=by
 intro w hI
 refine ry ?_
 unfold l8
 refine bp h md ?_
 refine uC hI lO (by omega) (by omega) fun b c w' hc hI=>?_
 refine ⟨fun i w'=>∃ (k:Nat) (c:Array Value) (Ls:List bG),k<=p.length/\i=.int .i64 k/\c.size=p.length * 5/\Part 5 TrC c Ls (p.take k)/\Inv w [] (bV ((b,.cells c bw)::Ls.flatten)) S w',
  fun i _=>p.length - (intOf i).toNat,⟨0,c,[],Nat.zero_le _,rfl,hc,Part.nil _ _ _,hI⟩,?_⟩
 intro t4 _ _ _ _ _ _ _ _ _ _ _ _ _ _ w'
 rintro ⟨k,c,Ls,hk,rfl,hc,hp,hI⟩
 refine bp h md ?_
 refine cg ?_
 refine bz (fun hki=>?_) (fun hki=>?_)
 ·have hk':k<p.length:=by omega
  have htl:(p.take k).length=k:=by simp; omega
  refine cJ hI h md Ic hk' (fun _ _=>RdC.length) fun cs hcs=>?_
  have hwm:=K9 (List.getElem_mem hk')
  refine Run.call0 o8 oF hI (mt hcs (by omega)) fun v' I' S' w'=>?_
  rintro ⟨rfl,cs',L,rfl,rfl,hT⟩ _ hI
  refine Fg hI 0 (k:=5) (by rfl) fl cr hk' (by omega) (by simp [Value.cells,hT.length]) (by simpa [Value.cells] using hT.one) fun w' hI=>?_
  refine bT (by omega) ?_
  refine ⟨⟨k+1,bM c (k * 5) cs',Ls++[L],hk',rfl,?_,?_,?_⟩,by simp [intOf]; omega⟩
  ·rw [fO _ _ _ (by rw [hT.length]; omega)]; exact hc
  ·have:=hp.snoc hT hT.length (by rw [htl]; omega)
   rw [htl] at this
   rw [List.take_succ_eq_append_getElem hk']
   exact this
  ·simp only [List.flatten_append,List.flatten_cons,List.flatten_nil,List.append_nil]
   simpa [bV,Value.cells] using hI
 ·have:k=p.length:=by omega
  subst this
  rw [List.take_length] at hp
  exact ⟨_,_,_,rfl,hI,Ext.refl _ _ _,rfl,_,rfl,hp.sl (Nat.le_refl _) (by simp only [maxLen]; omega) (by omega)⟩

end Go.Proofs.YtfcbhfjomgopbaaGreat

/- The reference's TermValid and what it calls. -/
namespace Go.Proofs.YtfcbhfjomgopbaaGreat
open Go Go.RowKit
attribute [local irreducible] Run CondV ag aO

theorem zb {α:Type} (p:α->Bool) (l:List α) (k:Nat) (h:k<l.length):(l.drop k).all p=(p l[k] && (l.drop (k+1)).all p):=by
 rw [List.drop_eq_getElem_cons h,List.all_cons]
theorem D6 {α:Type} (p:α->Bool) (l:List α) (k:Nat) (h:k<l.length):(l.drop k).any p=(p l[k] || (l.drop (k+1)).any p):=by
 rw [List.drop_eq_getElem_cons h,List.any_cons]
theorem j6 (s:ByteArray):s.data.toList.length=s.size:=by rw [Array.length_toList]; rfl
theorem Fa (s:ByteArray) (k:Nat) (h:k<s.size):s.data.toList[k]'(by rw [j6]; exact h)=s[k]:=rfl

theorem r9 (s:ByteArray) (hs:s.size<=maxLen) (S:al):Pure Tryz.prog GK [.string s] S (.bool (jC s)):=by
 intro w hI
 simp only [maxLen] at hs
 refine yg ?_
 unfold uy
 refine ⟨fun i w'=>∃ k:Nat,k<=s.size/\i=.int .i64 k/\(s.data.toList.drop k).all mC=lP s/\Inv w [] [] S w',fun i _=>s.size - (intOf i).toNat,⟨0,Nat.zero_le _,rfl,rfl,hI⟩,?_⟩
 intro t3 _ _ _ _ _ _ _ _ _ _ _ _ _ _ _ _ _ w'
 rintro ⟨k,hk,rfl,hrel,hI⟩
 refine fj bl ?_
 refine cg ?_
 refine bz (fun hki=>?_) (fun hki=>?_)
 ·have hk':k<s.size:=by omega
  have hstep:=zb mC s.data.toList k (by rw [j6]; exact hk')
  rw [Fa s k hk'] at hstep
  refine ⟨fun t w'=>t=.bool (!mC s[k])/\Inv w [] [] S w',?_,?_⟩
  ·refine iL bl hk' ?_
   refine cg ?_
   refine ru (fun h=>⟨?_,hI⟩) (fun h=>?_)
   ·have h:=of_decide_eq_true h
    rw [mC,decide_eq_false (show ¬ 97<=s[k].toNat by omega)]; rfl
   ·refine iL bl hk' ?_
    refine di ?_
    refine jQ h ⟨?_,hI⟩
    have h:=of_decide_eq_false h
    rw [mC,decide_eq_true (show 97<=s[k].toNat by omega),Bool.true_and]
    by_cases h2:s[k].toNat<=122
    ·rw [decide_eq_true h2,decide_eq_false (by omega)]; rfl
    ·rw [decide_eq_false h2,decide_eq_true (by omega)]; rfl
  intro t _ _ _ _ _ _ _ _ _ w'
  rintro ⟨rfl,hI⟩
  refine aS (fun h=>done hI ?_) (fun h=>?_)
  ·simp at h
   rw [jC,<- hrel,hstep,h]; rfl
  ·simp at h
   refine bT (by omega) ?_
   refine ⟨⟨k+1,hk',rfl,by rw [<- hrel,hstep,h]; rfl,hI⟩,by simp [intOf]; omega⟩
 ·have:k=s.size:=by omega
  subst this
  have hl:lP s=true:=by rw [<- hrel,<- j6,List.drop_length]; rfl
  refine fj bl ?_
  refine ja ?_
  refine gD (fun h=>?_) (fun h=>done hI ?_)
  ·refine fj bl ?_
   refine fi ?_
   refine fA h (done hI ?_)
   have h:=of_decide_eq_true h
   rw [jC,hl,decide_eq_true (show 1<=s.size by omega)]
   by_cases h2:s.size<=6
   ·rw [decide_eq_true h2,decide_eq_true (by omega)]; rfl
   ·rw [decide_eq_false h2,decide_eq_false (by omega)]; rfl
  ·have h:=of_decide_eq_false h
   rw [jC,hl,decide_eq_false (show ¬ 1<=s.size by omega)]; rfl

def tl:Array Value:=(signs.map Value.string).toArray
theorem FC {S:al} {b:Nat} {E:TypeId} (hS:S b=some (.cells tl E)):RdSl S 1 j8 (.slice (some ⟨b,0,none⟩) 15 15) signs:=by
 refine RdSl.ofCells hS rfl (by decide) ?_
 intro i hi
 have hi':i<15:=hi
 match i,hi' with
 | 0,_|1,_|2,_|3,_|4,_|5,_|6,_|7,_|8,_|9,_|10,_|11,_|12,_|13,_|14,_=>rfl
abbrev Bv (S:al):Value->List Item->al->Prop:=fun v I' S'=>I'=[]/\Sle S S'/\RdSl S' 1 j8 v signs
theorem ED {S:al} {b n:Nat} {o:Obj} (h:n<=b) (hs:Sle S (lS S b o)):Ext n [] S (lS S b o):=
 ⟨hs,fun c o' hc=>by
  simp only [lS] at hc
  split at hc
  ·rename_i e; subst e; exact .inr (.inr h)
  ·exact .inl hc⟩
theorem oy (S:al):Tri Tryz.prog Ee [] [] S (Bv S):=by
 intro w hI
 refine vC ?_
 unfold pP
 refine lW (v:=fun b=>.slice (some ⟨b,0,none⟩) 15 15) (o:=.cells tl hY) hI (by kernel_rfl) fun b w' hI=>?_
 have hnew:w.heap.size<=b:=by
  rcases hI.new b (by simp [bW,Item.foot]) with h|h
  ·simp [bW] at h
  ·exact h
 obtain ⟨h1,h2⟩:=Inv.publishLast (L:=[]) hI
 exact ⟨_,_,_,rfl,h1,ED hnew h2,rfl,h2,FC (by simp [lS]; rfl)⟩
theorem FS (s:ByteArray) {xs:List ByteArray} {S:al} {v:Value} (h:RdSl S 1 j8 v xs):Pure Tryz.prog Jb [v,.string s] S (.bool (xs.any fun x=>decide (x=s))):=by
 intro w hI
 have hlen:=h.le
 simp only [maxLen] at hlen
 refine Ak ?_
 unfold y9
 refine ⟨fun i w'=>∃ k:Nat,k<=xs.length/\i=.int .i64 k/\(xs.drop k).any (fun x=>decide (x=s))=xs.any (fun x=>decide (x=s))/\Inv w [] [] S w',fun i _=>xs.length - (intOf i).toNat,⟨0,Nat.zero_le _,rfl,rfl,hI⟩,?_⟩
 intro t3 _ _ _ _ _ _ _ _ _ _ _ _ _ w'
 rintro ⟨k,hk,rfl,hrel,hI⟩
 refine bp h ce ?_
 refine cg ?_
 refine bz (fun hki=>?_) (fun hki=>?_)
 ·have hk':k<xs.length:=by omega
  have hstep:=D6 (fun x=>decide (x=s)) xs k hk'
  refine fg hI h ce bn hk' (fun cs hcs=>hcs) ?_
  refine bJ ?_
  refine aS (fun he=>done hI ?_) (fun he=>?_)
  ·rw [<- hrel,hstep,he]; rfl
  ·refine bT (by omega) ?_
   exact ⟨⟨k+1,hk',rfl,by rw [<- hrel,hstep,he]; rfl,hI⟩,by simp [intOf]; omega⟩
 ·have:k=xs.length:=by omega
  subst this
  exact done hI (by rw [<- hrel,List.drop_length]; rfl)
/- the end of a reading function that has published something for itself -/
theorem u3 {w w':World} {L:List Item} {S S':al} {r r':Value} (h:Inv w [] L S' w') (hs:Sle S S') (e:r'=r):Ending.returned r'=.returned r/\Inv w [] [] S w':=⟨by rw [e],h.nil.less hs⟩
theorem sM (s:ByteArray) (hs:s.size<=maxLen) (S:al):Pure Tryz.prog Ao [.string s] S (.bool (ji s)):=by
 intro w hI
 refine rx ?_
 unfold mU
 refine Run.callPure uv uI hI (r9 s hs S) fun w' hI=>?_
 refine ru (fun h=>done hI ?_) (fun h=>?_)
 ·rw [ji,h]; rfl
 ·refine Run.call0 qD qm hI (oy S) fun v' I' S' w'=>?_
  rintro ⟨rfl,_,hr⟩ hle hI
  refine Run.callPure Hj Hk hI (FS s hr) fun w' hI=>?_
  refine jQ h (u3 hI hle ?_)
  rw [ji,h]; rfl

theorem E5 {t:T} {S:al} {cs:List Value} (h:RdT S cs t):Pure Tryz.prog JB [.agg cs.toArray] S (.bool (eB t)):=by
 intro w hI
 obtain ⟨kv,rfl,_,_,hs,hks⟩:=RdT.iff.1 h
 obtain ⟨k,n,s,ks⟩:=t
 simp only [T.name,T.kids,T.kind,T.n] at hs hks ⊢
 refine AK ?_
 unfold yS;dsimp only
 refine bS hI fun b1 w' hI=>?_
 refine ao hI 0 rfl bC aY rfl ?_
 refine bP ?_
 refine bz (fun hk=>?_) (fun hk=>?_)
 ·have ho:eB (.mk k n s ks)=(decide (0<=n) && (decide (n<=25) && (decide (s=emptyB) && decide (ks.length=0)))):=by
   rw [eB]; exact if_pos hk
  refine ao hI 0 rfl bF aY rfl ?_
  refine ja ?_
  refine gD (fun h1=>?_) (fun h1=>?_)
  ·refine ao hI 0 rfl bF aY rfl ?_
   refine fi ?_
   refine fA h1 ?_
   refine gD (fun h2=>?_) (fun h2=>?_)
   ·refine ao hI 0 rfl bB bn rfl ?_
    refine bJ ?_
    refine fA h2 ?_
    refine gD (fun h3=>?_) (fun h3=>done hI ?_)
    ·refine ao hI 0 rfl aK aJ rfl ?_
     refine bp hks aC ?_
     refine bP ?_
     refine fA h3 (done hI ?_)
     rw [ho,h1,h2,show decide (s=emptyB)=true from h3]
     simp
    ·rw [ho,h1,h2,show decide (s=emptyB)=false from h3]; rfl
   ·refine kD (done hI ?_)
    rw [ho,h1,h2]; rfl
  ·refine kD (kD (done hI ?_))
   rw [ho,h1]; rfl
 refine bP ?_
 refine bz (fun hk2=>?_) (fun hk2=>?_)
 ·have ho:eB (.mk k n s ks)=(decide (-999<=n) && (decide (n<=999) && (decide (s=emptyB) && decide (ks.length=0)))):=by
   rw [eB]; exact (if_neg hk).trans (if_pos hk2)
  refine ao hI 0 rfl bF aY rfl ?_
  refine ja ?_
  refine gD (fun h1=>?_) (fun h1=>?_)
  ·refine ao hI 0 rfl bF aY rfl ?_
   refine fi ?_
   refine fA h1 ?_
   refine gD (fun h2=>?_) (fun h2=>?_)
   ·refine ao hI 0 rfl bB bn rfl ?_
    refine bJ ?_
    refine fA h2 ?_
    refine gD (fun h3=>?_) (fun h3=>done hI ?_)
    ·refine ao hI 0 rfl aK aJ rfl ?_
     refine bp hks aC ?_
     refine bP ?_
     refine fA h3 (done hI ?_)
     rw [ho,h1,h2,show decide (s=emptyB)=true from h3]
     simp
    ·rw [ho,h1,h2,show decide (s=emptyB)=false from h3]; rfl
   ·refine kD (done hI ?_)
    rw [ho,h1,h2]; rfl
  ·refine kD (kD (done hI ?_))
   rw [ho,h1]; rfl
 refine bP ?_
 refine bz (fun hk3=>?_) (fun hk3=>done hI ?_)
 ·have ho:eB (.mk k n s ks)=(decide (n=0) && (ji s && decide (ks.length<=4))):=by
   rw [eB]; exact (if_neg hk).trans ((if_neg hk2).trans (if_pos hk3))
  refine ao hI 0 rfl bF aY rfl ?_
  refine bP ?_
  refine gD (fun h1=>?_) (fun h1=>?_)
  ·refine ao hI 0 rfl bB bn rfl ?_
   refine Run.callPure yR yI hI (sM s hs S) fun w' hI=>?_
   refine fA h1 ?_
   refine gD (fun h2=>?_) (fun h2=>done hI ?_)
   ·refine ao hI 0 rfl aK aJ rfl ?_
    refine bp hks aC ?_
    refine fi ?_
    refine fA h2 (done hI ?_)
    rw [ho,h1,h2]
    simp
    omega
   ·rw [ho,h1,h2]; rfl
  ·refine kD (done hI ?_)
   rw [ho,h1]; rfl
 ·rw [eB]
  exact congrArg Value.bool ((if_neg hk).trans ((if_neg hk2).trans (if_neg hk3))).symm

theorem z0:∀ (t:T) (S:al) (cs:List Value) (d:Int),RdT S cs t->-1<=d->d<=1000->Pure Tryz.prog FQ [.agg cs.toArray,.int .i64 d] S (.bool (fI t d)):=by
 refine T.ind fun k n s ks ih S cs d h h0 h1=>?_
 intro w hI
 have hcs:=h
 obtain ⟨kv,rfl,_,_,hs,hks⟩:=RdT.iff.1 h
 simp only [T.name,T.kids,T.kind,T.n] at hs hks ⊢
 have hlen:=hks.le
 simp only [maxLen] at hlen
 refine wi ?_
 unfold rV
 refine bS hI fun b1 w' hI=>?_
 refine ⟨fun t w'=>t=.bool (decide (d<1) || !eB (.mk k n s ks))/\Inv w [] [.blk b1 (.cells #[.int .i64 k,.int .i64 n,.string s,kv] ab)] S w',?_,?_⟩
 ·refine cg ?_
  refine ru (fun h=>⟨by rw [h]; rfl,hI⟩) (fun h=>?_)
  refine aL hI 0 ai rfl rfl ?_
  refine Run.callPure Hc Gw hI (E5 hcs) fun w' hI=>?_
  refine cK ?_
  exact jQ h ⟨by rw [h]; rfl,hI⟩
 intro t _ _ _ _ _ _ w'
 rintro ⟨rfl,hI⟩
 refine aS (fun hb=>done hI ?_) (fun hb=>?_)
 ·rw [fI]
  by_cases hd:d<1
  ·rw [if_pos hd]
  ·rw [if_neg hd]
   simp [hd] at hb
   rw [hb]; rfl
 have hd:¬ d<1:=fun h=>by simp [h] at hb
 have ho:eB (.mk k n s ks)=true:=by simp [hd] at hb; exact hb
 refine ⟨fun i w'=>∃ j:Nat,j<=ks.length/\i=.int .i64 j/\fJ (ks.drop j) (d - 1)=fJ ks (d - 1)/\Inv w [] [.blk b1 (.cells #[.int .i64 k,.int .i64 n,.string s,kv] ab)] S w',
  fun i _=>ks.length - (intOf i).toNat,⟨0,Nat.zero_le _,rfl,rfl,hI⟩,?_⟩
 intro t5 _ _ _ _ _ _ _ _ _ _ _ _ _ _ _ _ _ w'
 rintro ⟨j,hj,rfl,hrel,hI⟩
 refine ao hI 0 rfl aK aJ rfl ?_
 refine bp hks aC ?_
 refine cg ?_
 refine bz (fun hji=>?_) (fun hji=>?_)
 ·have hj':j<ks.length:=by omega
  have hstep:fJ (ks.drop j) (d - 1)=(fI ks[j] (d - 1) && fJ (ks.drop (j+1)) (d - 1)):=by
   rw [List.drop_eq_getElem_cons hj',fJ]
  refine ao hI 0 rfl aK aJ rfl ?_
  refine cJ hI hks aC ai hj' (fun _ _=>RdT.length) fun cs' hcs'=>?_
  refine ic (by omega) ?_
  refine Run.callPure sC qt hI (ih _ (List.getElem_mem hj') S cs' (d - 1) hcs' (by omega) (by omega)) fun w' hI=>?_
  refine cK ?_
  refine aS (fun hne=>done hI ?_) (fun he=>?_)
  ·simp at hne
   rw [fI,if_neg hd,ho,<- hrel,hstep,hne]; rfl
  ·simp at he
   refine bT (by omega) ?_
   exact ⟨⟨j+1,hj',rfl,by rw [<- hrel,hstep,he]; rfl,hI⟩,by simp [intOf]; omega⟩
 ·have:j=ks.length:=by omega
  subst this
  refine done hI ?_
  rw [fI,if_neg hd,ho,<- hrel,List.drop_length,fJ]; rfl

theorem pl:∀ (ts:List T) (j:Nat) (h:j<ts.length),cU (ts.drop j)=dw ts[j]+cU (ts.drop (j+1)):=by
 intro ts j h
 rw [List.drop_eq_getElem_cons h,cU]
theorem Ay:∀ (t:T) (S:al) (cs:List Value) (most:Int),RdT S cs t->0<=most->most<=1000->dw t<=4611686018427387904->Pure Tryz.prog Gc [.agg cs.toArray,.int .i64 most] S (.int .i64 (ii t most)):=by
 refine T.ind fun k n s ks ih S cs most h h0 h1 hc=>?_
 intro w hI
 obtain ⟨kv,rfl,_,_,hs,hks⟩:=RdT.iff.1 h
 simp only [T.name,T.kids,T.kind,T.n] at hs hks ⊢
 have hlen:=hks.le
 simp only [maxLen] at hlen
 rw [show dw (T.mk k n s ks)=1+cU ks from rfl] at hc
 refine vp ?_
 unfold pR
 refine bS hI fun b1 w' hI=>?_
 refine ⟨fun i m w'=>∃ (j:Nat) (c:Int),j<=ks.length/\i=.int .i64 j/\m=.int .i64 c/\1<=c/\c+cU (ks.drop j)<=1+cU ks/\fu (ks.drop j) c most=fu ks 1 most/\Inv w [] [.blk b1 (.cells #[.int .i64 k,.int .i64 n,.string s,kv] ab)] S w',
  fun i _ _=>ks.length - (intOf i).toNat,⟨0,1,Nat.zero_le _,rfl,rfl,by omega,by rw [List.drop_zero]; omega,rfl,hI⟩,?_⟩
 intro t6 _ _ t5 _ _ _ _ _ _ _ _ _ _ _ _ _ _ _ _ _ _ _ _ _ w'
 rintro ⟨j,c,hj,rfl,rfl,hc1,hc2,hrel,hI⟩
 refine ⟨fun t w'=>t=.bool (decide (j<ks.length) && decide (c<=most))/\Inv w [] [.blk b1 (.cells #[.int .i64 k,.int .i64 n,.string s,kv] ab)] S w',?_,?_⟩
 ·refine ao hI 0 rfl aK aJ rfl ?_
  refine bp hks aC ?_
  refine cg ?_
  refine gD (fun h=>?_) (fun h=>⟨?_,hI⟩)
  ·refine fi ?_
   refine fA h ⟨?_,hI⟩
   rw [decide_eq_true (show j<ks.length from by have:=of_decide_eq_true h; omega)]; rfl
  ·rw [decide_eq_false (show ¬ j<ks.length from by have:=of_decide_eq_false h; omega)]; rfl
 intro t _ _ _ _ _ _ _ _ _ w'
 rintro ⟨rfl,hI⟩
 refine aS (fun hb=>?_) (fun hb=>done hI ?_)
 ·simp at hb
  obtain ⟨hj',hcm⟩:=hb
  have hsp:=pl ks j hj'
  have hstep:fu (ks.drop j) c most=fu (ks.drop (j+1)) (c+ii ks[j] (most - c)) most:=by
   rw [List.drop_eq_getElem_cons hj',fu,if_pos hcm]
  have hct:=s4 ks[j] (most - c) (by omega)
  have hp:=iY ks[j]
  have hlp:=eE (ks.drop (j+1))
  have hcle:1<=ii ks[j] (most - c)/\ii ks[j] (most - c)<=dw ks[j]:=by
   by_cases hq:dw ks[j]<=most - c
   ·rw [hct.1 hq]; omega
   ·have:=hct.2 (by omega); omega
  refine ao hI 0 rfl aK aJ rfl ?_
  refine cJ hI hks aC ai hj' (fun _ _=>RdT.length) fun cs' hcs'=>?_
  refine ic (by omega) ?_
  refine Run.callPure pX pN hI (ih _ (List.getElem_mem hj') S cs' (most - c) hcs' (by omega) (by omega) (by omega)) fun w' hI=>?_
  refine bT (by omega) ?_
  refine bT (by omega) ?_
  exact ⟨⟨j+1,_,hj',rfl,rfl,by omega,by omega,by rw [<- hrel,hstep],hI⟩,by simp [intOf]; omega⟩
 ·show Value.int .i64 c=Value.int .i64 (fu ks 1 most)
  rw [<- hrel]
  by_cases hj':j<ks.length
  ·simp [hj'] at hb
   rw [List.drop_eq_getElem_cons hj',fu,if_neg (by omega)]
  ·rw [List.drop_eq_nil_of_le (by omega),fu]

mutual
theorem K6:∀ t:T,dw t<=1+(wT t:Int)
 | .mk k n s ks=>by
  rw [show dw (T.mk k n s ks)=1+cU ks from rfl,wT]
  have:=Dn ks
  omega
theorem Dn:∀ ts:List T,cU ts<=ts.length+(wL ts:Int)
 | []=>by simp [cU,wL]
 | t::ts=>by
  rw [show cU (t::ts)=dw t+cU ts from rfl,wL,List.length_cons]
  have:=K6 t; have:=Dn ts
  omega
end

theorem gF {t:T} {S:al} {cs:List Value} (h:RdT S cs t) (hc:dw t<=4611686018427387904):Pure Tryz.prog Aa [.agg cs.toArray] S (.bool (dA t)):=by
 intro w hI
 have hl:=h.length
 refine rW ?_
 unfold lT
 refine bS hI fun b1 w' hI=>?_
 refine aL hI 0 ai rfl (by simpa [Value.cells] using hl) ?_
 refine Run.callPure sC qt hI (z0 t S cs 30 h (by omega) (by omega)) fun w' hI=>?_
 refine gD (fun h1=>?_) (fun h1=>done hI ?_)
 ·refine aL hI 0 ai rfl (by simpa [Value.cells] using hl) ?_
  refine Run.callPure pX pN hI (Ay t S cs 120 h (by omega) (by omega) hc) fun w' hI=>?_
  refine fi ?_
  refine fA h1 (done hI ?_)
  rw [dA,h1,Jn]; rfl
 ·rw [dA,h1]; rfl

end Go.Proofs.YtfcbhfjomgopbaaGreat

/- slices.IndexFunc and slices.ContainsFunc, whatever function is handed to them. -/
namespace Go.Proofs.YtfcbhfjomgopbaaGreat
open Go Go.RowKit
attribute [local irreducible] Run CondV ag aO

def dj {α σ:Type} (step:σ->α->Bool × σ):σ->List α->Nat->Int × σ
 | st,[],_=>(-1,st)
 | st,x::xs,k=>if (step st x).1 then ((k:Int),(step st x).2) else dj step (step st x).2 xs (k+1)
def jV {α σ:Type} (step:σ->α->Bool × σ):σ->List α->Bool × σ
 | st,[]=>(false,st)
 | st,x::xs=>if (step st x).1 then (true,(step st x).2) else jV step (step st x).2 xs
theorem kH {α σ:Type} (step:σ->α->Bool × σ):∀ (xs:List α) (st:σ) (k:Nat),decide (0<=(dj step st xs k).1)=(jV step st xs).1/\(dj step st xs k).2=(jV step st xs).2
 | [],st,k=>by simp [dj,jV]
 | x::xs,st,k=>by
  by_cases h:(step st x).1=true
  ·simp [dj,jV,h]
  ·simpa [dj,jV,h] using kH step xs (step st x).2 (k+1)
theorem BM {α:Type} (p:α->Bool):∀ xs:List α,jV (σ:=Unit) (fun _ x=>(p x,())) () xs=(xs.any p,())
 | []=>rfl
 | x::xs=>by
  simp only [jV,List.any_cons]
  cases h:p x with
  | true=>rfl
  | false=>rw [BM p xs]; rfl
abbrev fv (f:FuncId) (cap:List Value):Value:=.func (.func f) #[] cap.toArray
section
variable {P:Program} {w w0:World} {X:List Nat} {A I:List Item} {S:al} {K:Value->World->Prop}
theorem JL {P:Program} {f:FuncId} {fn:Func} {cap args:List Value} {w:World} (hf:P.funcs[f]?=some fn) (hn:(fn.name == "runtime.NumGoroutine" || fn.body.isNone)=false) :
  (fN (fv f cap) args).run P w=.ok (.enter f (args++cap).toArray) w:=by
 simp only [Bool.or_eq_false_iff] at hn
 have h1:¬ fn.name = "runtime.NumGoroutine" := by simpa using hn.1
 have h2:¬ fn.body=none:=fun e=>by rw [e] at hn; simp at hn
 simp [fN,Deferred.ofValue,invoke,callFunc,hf,h1,h2]
theorem Run.callV {f:FuncId} {fn:Func} {cap args:List Value} {Post:Value->List Item->al->Prop}
  (hf:P.funcs[f]?=some fn) (hn:(fn.name == "runtime.NumGoroutine" || fn.body.isNone)=false) (h:Inv w0 X (A++I) S w) (hc:Tri P f (args++cap) I S Post)
  (hk:∀ v I' S' w',Post v I' S'->Sle S S'->Inv w0 X (A++I') S' w'->K v w'):Run P (fN (fv f cap) args) w K:=by
 unfold Run
 rw [JL hf hn]
 refine (hc w (h.sub (List.sublist_append_right A I)).begin).mono ?_
 rintro e w' ⟨v,I',S',rfl,hI,hE,hP⟩
 exact hk v I' S' w' hP hE.1 (Inv.step h hI hE.2)
end
/- what a function handed over does to the state that it keeps -/
structure Cb (P:Program) (f:FuncId) (fn:Func) {α σ:Type} (cap:List Value) (S:al) (It:σ->List Item) (ok:σ->Prop) (step:σ->α->Bool × σ) (R:Value->α->Prop) (xs:List α):Prop where
 hf:P.funcs[f]?=some fn
 hn:(fn.name == "runtime.NumGoroutine" || fn.body.isNone)=false
 keep:∀ st x,x∈xs->ok st->(step st x).1=false->ok (step st x).2
 call:∀ st x v,x∈xs->ok st->R v x->Tri P f (v::cap) (It st) S fun r I' S'=>r=.bool (step st x).1/\I'=It (step st x).2/\S'=S
/- a function that only reads, handed over -/
theorem Cb.pure {P:Program} {f:FuncId} {fn:Func} {α:Type} {cap:List Value} {S:al} {p:α->Bool} {R:Value->α->Prop} {xs:List α} (L:List Item) (hf:P.funcs[f]?=some fn) (hn:(fn.name == "runtime.NumGoroutine" || fn.body.isNone)=false)
  (h:∀ x v,x∈xs->R v x->Tri P f (v::cap) L S fun r I' S'=>r=.bool (p x)/\I'=L/\S'=S):Cb P f fn cap S (fun _:Unit=>L) (fun _=>True) (fun _ x=>(p x,())) R xs:=
 ⟨hf,hn,fun _ _ _ _ _=>trivial,fun _ x v hx _ hR=>h x v hx hR⟩

theorem qN {σ:Type} {f:FuncId} {fn:Func} {cap:List Value} {S:al} {It:σ->List Item} {ok:σ->Prop} {step:σ->T->Bool × σ} {xs:List T} {v:Value}
  (hcb:Cb Tryz.prog f fn cap S It ok step (fun v x=>∃ cs,v=.agg cs.toArray/\RdT S cs x) xs) (h:RdSl S 4 (RdT S) v xs) {st:σ} (hok:ok st) :
  Tri Tryz.prog pf [v,fv f cap] (It st) S fun r I' S'=>r=.int .i64 (dj step st xs 0).1/\I'=It (dj step st xs 0).2/\S'=S:=by
 intro w hI
 have hlen:=h.le
 simp only [maxLen] at hlen
 refine kJ ?_
 unfold il
 refine bp h aC ?_
 refine ⟨fun i w'=>∃ (k:Nat) (st':σ),k<=xs.length/\i=.int .i64 k/\ok st'/\dj step st' (xs.drop k) k=dj step st xs 0/\Inv w (bW (It st)) (It st') S w',fun i _=>xs.length - (intOf i).toNat,
  ⟨0,st,Nat.zero_le _,rfl,hok,rfl,hI⟩,?_⟩
 intro t8 _ _ _ _ _ _ _ _ _ _ _ _ w'
 rintro ⟨k,st',hk,rfl,hok',hrel,hI⟩
 refine cg ?_
 refine bz (fun hki=>?_) (fun hki=>?_)
 ·have hk':k<xs.length:=by omega
  have hm:=List.getElem_mem hk'
  have hstep:dj step st' (xs.drop k) k=if (step st' xs[k]).1 then ((k:Int),(step st' xs[k]).2) else dj step (step st' xs[k]).2 (xs.drop (k+1)) (k+1):=by
   rw [List.drop_eq_getElem_cons hk',dj]
  refine cJ hI h aC ai hk' (fun _ _=>RdT.length) fun cs hcs=>?_
  refine Run.callV (A:=[]) (args:=[.agg cs.toArray]) hcb.hf hcb.hn (by simpa using hI) (hcb.call st' _ _ hm hok' ⟨cs,rfl,hcs⟩) fun v' I' S' w'=>?_
  rintro ⟨rfl,rfl,rfl⟩ _ hI
  refine aS (fun hb=>?_) (fun hb=>?_)
  ·rw [if_pos hb] at hstep
   refine ⟨_,_,_,rfl,by simpa using hI,Ext.refl _ _ _,?_,?_,rfl⟩
   ·rw [<- hrel,hstep]
   ·rw [<- hrel,hstep]
  ·refine bT (by omega) ?_
   rw [hb] at hstep
   refine ⟨⟨k+1,_,hk',rfl,hcb.keep st' _ hm hok' hb,?_,by simpa using hI⟩,by simp [intOf]; omega⟩
   rw [<- hrel,hstep]
   rfl
 ·have:k=xs.length:=by omega
  subst this
  rw [List.drop_length,dj] at hrel
  exact ⟨_,_,_,rfl,hI,Ext.refl _ _ _,by rw [<- hrel],by rw [<- hrel],rfl⟩
theorem lY {σ:Type} {f:FuncId} {fn:Func} {cap:List Value} {S:al} {It:σ->List Item} {ok:σ->Prop} {step:σ->T->Bool × σ} {xs:List T} {v:Value}
  (hcb:Cb Tryz.prog f fn cap S It ok step (fun v x=>∃ cs,v=.agg cs.toArray/\RdT S cs x) xs) (h:RdSl S 4 (RdT S) v xs) {st:σ} (hok:ok st) :
  Tri Tryz.prog lL [v,fv f cap] (It st) S fun r I' S'=>r=.bool (jV step st xs).1/\I'=It (jV step st xs).2/\S'=S:=by
 intro w hI
 refine je ?_
 unfold gi
 refine Run.call (A:=[]) n6 nT (by simpa using hI) (qN hcb h hok) fun v' I' S' w'=>?_
 rintro ⟨rfl,rfl,rfl⟩ _ hI
 refine ja ?_
 have he:=kH step xs st 0
 exact ⟨_,_,_,rfl,by simpa using hI,Ext.refl _ _ _,by rw [he.1],by rw [he.2],rfl⟩
end Go.Proofs.YtfcbhfjomgopbaaGreat

/- The program's TermValid and what it calls. -/
namespace Go.Proofs.YtfcbhfjomgopbaaGreat
open Go Go.RowKit
attribute [local irreducible] Run CondV ag aO

theorem io (n low high:Int) (S:al):Pure Tryz.prog Hr [.int .i64 n,.int .i64 low,.int .i64 high] S (.bool (decide (low<=n) && decide (n<=high))):=by
 intro w hI
 refine y0 ?_
 unfold vd
 refine fi ?_
 refine gD (fun h=>?_) (fun h=>done hI (by rw [h]; rfl))
 refine fi ?_
 exact fA h (done hI (by rw [h]; rfl))
theorem lu (s:ByteArray) (hs:s.size<=maxLen) (S:al):Pure Tryz.prog zA [.string s] S (.bool (jC s)):=by
 intro w hI
 simp only [maxLen] at hs
 refine pV ?_
 unfold my
 refine fj bl ?_
 refine ⟨fun i w'=>∃ k:Nat,k<=s.size/\i=.int .i64 k/\(s.data.toList.drop k).all mC=lP s/\Inv w [] [] S w',fun i _=>s.size - (intOf i).toNat,⟨0,Nat.zero_le _,rfl,rfl,hI⟩,?_⟩
 intro t6 _ _ _ _ _ _ _ _ _ _ _ _ _ _ _ w'
 rintro ⟨k,hk,rfl,hrel,hI⟩
 refine cg ?_
 refine bz (fun hki=>?_) (fun hki=>?_)
 ·have hk':k<s.size:=by omega
  have hstep:=zb mC s.data.toList k (by rw [j6]; exact hk')
  rw [Fa s k hk'] at hstep
  refine ⟨fun t w'=>t=.bool (!mC s[k])/\Inv w [] [] S w',?_,?_⟩
  ·refine iL bl hk' ?_
   refine cg ?_
   refine ru (fun h=>⟨?_,hI⟩) (fun h=>?_)
   ·have h:=of_decide_eq_true h
    rw [mC,decide_eq_false (show ¬ 97<=s[k].toNat by omega)]; rfl
   ·refine iL bl hk' ?_
    refine di ?_
    refine jQ h ⟨?_,hI⟩
    have h:=of_decide_eq_false h
    rw [mC,decide_eq_true (show 97<=s[k].toNat by omega),Bool.true_and]
    by_cases h2:s[k].toNat<=122
    ·rw [decide_eq_true h2,decide_eq_false (by omega)]; rfl
    ·rw [decide_eq_false h2,decide_eq_true (by omega)]; rfl
  intro t _ _ _ _ _ _ _ _ _ w'
  rintro ⟨rfl,hI⟩
  refine aS (fun h=>done hI ?_) (fun h=>?_)
  ·simp at h
   rw [jC,<- hrel,hstep,h]; rfl
  ·simp at h
   refine bT (by omega) ?_
   refine ⟨⟨k+1,hk',rfl,by rw [<- hrel,hstep,h]; rfl,hI⟩,by simp [intOf]; omega⟩
 ·have:k=s.size:=by omega
  subst this
  have hl:lP s=true:=by rw [<- hrel,<- j6,List.drop_length]; rfl
  refine fj bl ?_
  refine Run.callPure jj jm hI (io _ _ _ S) fun w' hI=>done hI ?_
  rw [jC,hl,Bool.true_and]
  congr 1
  rw [Bool.eq_iff_iff]
  simp
  omega
theorem Ac (S:al):Tri Tryz.prog Fl [] [] S (Bv S):=by
 intro w hI
 refine we ?_
 unfold p7
 refine lW (v:=fun b=>.slice (some ⟨b,0,none⟩) 15 15) (o:=.cells tl hY) hI (by kernel_rfl) fun b w' hI=>?_
 have hnew:w.heap.size<=b:=by
  rcases hI.new b (by simp [bW,Item.foot]) with h|h
  ·simp [bW] at h
  ·exact h
 obtain ⟨h1,h2⟩:=Inv.publishLast (L:=[]) hI
 exact ⟨_,_,_,rfl,h1,ED hnew h2,rfl,h2,FC (by simp [lS]; rfl)⟩
theorem pG (s:ByteArray) {xs:List ByteArray} {S:al} {v:Value} (h:RdSl S 1 j8 v xs) :
  Pure Tryz.prog tO [v,.string s] S (.int .i64 (dj (σ:=Unit) (fun _ x=>(decide (x=s),())) () xs 0).1):=by
 intro w hI
 have hlen:=h.le
 simp only [maxLen] at hlen
 refine mh ?_
 unfold js
 refine bp h ce ?_
 refine ⟨fun i w'=>∃ k:Nat,k<=xs.length/\i=.int .i64 k/\dj (σ:=Unit) (fun _ x=>(decide (x=s),())) () (xs.drop k) k=dj (σ:=Unit) (fun _ x=>(decide (x=s),())) () xs 0/\Inv w [] [] S w',
  fun i _=>xs.length - (intOf i).toNat,⟨0,Nat.zero_le _,rfl,rfl,hI⟩,?_⟩
 intro t8 _ _ _ _ _ _ _ _ _ _ _ _ w'
 rintro ⟨k,hk,rfl,hrel,hI⟩
 refine cg ?_
 refine bz (fun hki=>?_) (fun hki=>?_)
 ·have hk':k<xs.length:=by omega
  rw [List.drop_eq_getElem_cons hk',dj] at hrel
  refine fg hI h ce bn hk' (fun cs hcs=>hcs) ?_
  refine bJ ?_
  refine bz (fun he=>done hI ?_) (fun he=>?_)
  ·rw [<- hrel,if_pos (by simpa using he.symm)]
  ·refine bT (by omega) ?_
   rw [if_neg (by simpa using fun e=>he e.symm)] at hrel
   exact ⟨⟨k+1,hk',rfl,hrel,hI⟩,by simp [intOf]; omega⟩
 ·have:k=xs.length:=by omega
  subst this
  rw [List.drop_length,dj] at hrel
  exact done hI (by rw [<- hrel])
theorem lD (s:ByteArray) {xs:List ByteArray} {S:al} {v:Value} (h:RdSl S 1 j8 v xs) :
  Pure Tryz.prog nZ [v,.string s] S (.bool (xs.any fun x=>decide (x=s))):=by
 intro w hI
 refine jZ ?_
 unfold g8
 refine Run.callPure qA sf hI (pG s h) fun w' hI=>?_
 refine ja (done hI ?_)
 rw [(kH _ xs () 0).1,BM]
theorem ta (s:ByteArray) (hs:s.size<=maxLen) (S:al):Pure Tryz.prog zC [.string s] S (.bool (ji s)):=by
 intro w hI
 refine rQ ?_
 unfold mm
 refine Run.callPure mf lR hI (lu s hs S) fun w' hI=>?_
 refine ru (fun h=>done hI ?_) (fun h=>?_)
 ·rw [ji,h]; rfl
 ·refine Run.call0 C6 CO hI (Ac S) fun v' I' S' w'=>?_
  rintro ⟨rfl,_,hr⟩ hle hI
  refine Run.callPure lX lZ hI (lD s hr) fun w' hI=>?_
  refine jQ h (u3 hI hle ?_)
  rw [ji,h]; rfl

abbrev ez (b:Nat) (c:Int):Item:=.blk b (.cells #[.int .i64 c] eW)
abbrev j2 (bc:Nat) (S:al) (r:Bool × Int):Value->List Item->al->Prop:=fun v I' S'=>v=.bool r.1/\I'=[ez bc r.2]/\S'=S
theorem FH:∀ (t:T) (deep c:Int),c<=120->(eL t deep c).1=true->c<(eL t deep c).2/\(eL t deep c).2<=120:=by
 intro t deep c hc h
 have:=yZ t deep c
 rw [this.2 h]
 have h1:=this.1
 rw [h] at h1
 have h2:=h1.symm
 simp at h2
 have:=iY t
 omega
theorem BH (deep:Int):∀ (ks:List T) (c:Int),jV (fun c t=>(!(eL t deep c).1,(eL t deep c).2)) c ks=(!(i6 ks deep c).1,(i6 ks deep c).2)
 | [],c=>by simp [jV,i6]
 | t::ts,c=>by
  by_cases h:(eL t deep c).1=true
  ·simp [jV,i6,h,BH deep ts]
  ·simp [jV,i6,h]

theorem GX:∀ (t:T) (S:al) (cs:List Value) (deep c:Int) (bc:Nat),RdT S cs t->0<=deep->deep<=31->0<=c->c<=120->
  Tri Tryz.prog KK [.agg cs.toArray,.int .i64 deep,.pointer (some ⟨bc,0,none⟩)] [ez bc c] S (j2 bc S (eL t deep c)):=by
 refine T.ind fun k n s ks ih S cs deep c bc h hd0 hd1 hc0 hc1=>?_
 intro w hI
 obtain ⟨kv,rfl,_,_,hs,hks⟩:=RdT.iff.1 h
 simp only [T.name,T.kids,T.kind,T.n] at hs hks ⊢
 have hend:∀ {L:List Item} {w':World} {v:Value} (r:Bool × Int),Inv w (bW [ez bc c]) (ez bc r.2::L) S w'->v=.bool r.1->r=eL (.mk k n s ks) deep c->
   ∃ v' I' S',Ending.returned v=.returned v'/\Inv w (bW [ez bc c]) I' S' w'/\Ext w.heap.size (bW [ez bc c]) S S'/\j2 bc S (eL (.mk k n s ks) deep c) v' I' S':=by
  intro L w' v r h1 h2 h3
  subst h3
  exact ⟨_,_,_,rfl,h1.pick [true],Ext.refl _ _ _,h2,rfl,rfl⟩
 refine CU ?_
 unfold BF;dsimp only
 refine bS hI fun b3 w' hI=>?_
 refine bS hI fun b4 w' hI=>?_
 refine bS hI fun b5 w' hI=>?_
 refine aX hI 3 nM rfl rfl ?_
 refine cE ?_
 refine aX hI 0 aY rfl rfl ?_
 refine bT (by omega) ?_
 refine cE ?_
 refine dy hI 0 (n:=1) rfl (by rw [aY]; rfl) rfl (Nat.le_of_ble_eq_true rfl) (by simp [Value.cells]; rfl) fun w' hI=>?_
 refine ⟨fun t w'=>t=.bool (decide (120<c+1 ∨ 30<deep))/\Inv w (bW [ez bc c]) [ez bc (c+1),.blk b3 (.cells #[.int .i64 k,.int .i64 n,.string s,kv] ab),.blk b4 (.cells #[.int .i64 deep] eW),.blk b5 (.cells #[.pointer (some ⟨bc,0,none⟩)] fK)] S w',?_,?_⟩
 ·refine aX hI 3 nM rfl rfl ?_
  refine cE ?_
  refine aX hI 0 aY rfl rfl ?_
  refine di ?_
  refine ru (fun h=>⟨?_,hI⟩) (fun h=>?_)
  ·have h:=of_decide_eq_true h
   rw [decide_eq_true (show 120<c+1 ∨ 30<deep from .inl h)]
  ·refine aX hI 2 aY rfl rfl ?_
   refine di ?_
   refine jQ h ⟨?_,hI⟩
   have h:=of_decide_eq_false h
   congr 1
   rw [Bool.eq_iff_iff]
   simp
   omega
 intro t _ _ _ _ _ _ _ w'
 rintro ⟨rfl,hI⟩
 refine bz (fun hb=>?_) (fun hb=>?_)
 ·exact hend (false,c+1) hI rfl (by rw [eL,if_pos hb])
 have hsc:∀ r,(if k=1 ∨ k=2 then (eB (.mk k n s ks),c+1) else if k=3 then (if eB (.mk k n s ks) then i6 ks (deep+1) (c+1) else (false,c+1)) else (false,c+1))=r->r=eL (.mk k n s ks) deep c:=by
  intro r hr
  rw [eL,if_neg hb,hr]
 refine ao hI 1 rfl bC aY rfl ?_
 refine bP ?_
 refine bz (fun hk=>?_) (fun hk=>?_)
 ·have ho:eB (.mk k n s ks)=(decide (0<=n) && (decide (n<=25) && (decide (s=emptyB) && decide (ks.length=0)))):=by
   rw [eB]; exact if_pos hk
  have hfin:∀ {w':World} {b:Bool},Inv w (bW [ez bc c]) [ez bc (c+1),.blk b3 (.cells #[.int .i64 k,.int .i64 n,.string s,kv] ab),.blk b4 (.cells #[.int .i64 deep] eW),.blk b5 (.cells #[.pointer (some ⟨bc,0,none⟩)] fK)] S w'->
    b=eB (.mk k n s ks)->∃ v' I' S',Ending.returned (.bool b)=.returned v'/\Inv w (bW [ez bc c]) I' S' w'/\Ext w.heap.size (bW [ez bc c]) S S'/\j2 bc S (eL (.mk k n s ks) deep c) v' I' S':=
   fun hI hb=>hend (_,c+1) hI (by rw [hb]) (hsc _ (if_pos (.inl hk)))
  refine ao hI 1 rfl bF aY rfl ?_
  refine Run.callPure jj jm hI (io _ _ _ S) fun w' hI=>?_
  refine gD (fun h2=>?_) (fun h2=>?_)
  ·have h2':=h2
   rw [Bool.and_eq_true] at h2'
   refine ao hI 1 rfl bB bn rfl ?_
   refine bJ ?_
   refine fA h2 ?_
   refine gD (fun h3=>?_) (fun h3=>hfin hI ?_)
   ·refine ao hI 1 rfl aK aJ rfl ?_
    refine bp hks aC ?_
    refine bP ?_
    refine fA h3 (hfin hI ?_)
    rw [ho,h2'.1,h2'.2,show decide (s=emptyB)=true from h3]
    simp
   ·rw [ho,h2'.1,h2'.2,show decide (s=emptyB)=false from h3]; rfl
  ·refine kD (hfin hI ?_)
   rw [ho,<- Bool.and_assoc,h2]; rfl
 refine bP ?_
 refine bz (fun hk2=>?_) (fun hk2=>?_)
 ·have ho:eB (.mk k n s ks)=(decide (-999<=n) && (decide (n<=999) && (decide (s=emptyB) && decide (ks.length=0)))):=by
   rw [eB]; exact (if_neg hk).trans (if_pos hk2)
  have hfin:∀ {w':World} {b:Bool},Inv w (bW [ez bc c]) [ez bc (c+1),.blk b3 (.cells #[.int .i64 k,.int .i64 n,.string s,kv] ab),.blk b4 (.cells #[.int .i64 deep] eW),.blk b5 (.cells #[.pointer (some ⟨bc,0,none⟩)] fK)] S w'->
    b=eB (.mk k n s ks)->∃ v' I' S',Ending.returned (.bool b)=.returned v'/\Inv w (bW [ez bc c]) I' S' w'/\Ext w.heap.size (bW [ez bc c]) S S'/\j2 bc S (eL (.mk k n s ks) deep c) v' I' S':=
   fun hI hb=>hend (_,c+1) hI (by rw [hb]) (hsc _ (if_pos (.inr hk2)))
  refine ao hI 1 rfl bF aY rfl ?_
  refine Run.callPure jj jm hI (io _ _ _ S) fun w' hI=>?_
  refine gD (fun h2=>?_) (fun h2=>?_)
  ·have h2':=h2
   rw [Bool.and_eq_true] at h2'
   refine ao hI 1 rfl bB bn rfl ?_
   refine bJ ?_
   refine fA h2 ?_
   refine gD (fun h3=>?_) (fun h3=>hfin hI ?_)
   ·refine ao hI 1 rfl aK aJ rfl ?_
    refine bp hks aC ?_
    refine bP ?_
    refine fA h3 (hfin hI ?_)
    rw [ho,h2'.1,h2'.2,show decide (s=emptyB)=true from h3]
    simp
   ·rw [ho,h2'.1,h2'.2,show decide (s=emptyB)=false from h3]; rfl
  ·refine kD (hfin hI ?_)
   rw [ho,<- Bool.and_assoc,h2]; rfl
 refine bP ?_
 have hk12:¬ (k=1 ∨ k=2):=fun h=>h.elim hk hk2
 refine bz (fun hk3=>?_) (fun hk3=>?_)
 ·have ho:eB (.mk k n s ks)=(decide (n=0) && (ji s && decide (ks.length<=4))):=by
   rw [eB]; exact (if_neg hk).trans ((if_neg hk2).trans (if_pos hk3))
  refine ⟨fun t w'=>t=.bool (!eB (.mk k n s ks))/\Inv w (bW [ez bc c]) [ez bc (c+1),.blk b3 (.cells #[.int .i64 k,.int .i64 n,.string s,kv] ab),.blk b4 (.cells #[.int .i64 deep] eW),.blk b5 (.cells #[.pointer (some ⟨bc,0,none⟩)] fK)] S w',?_,?_⟩
  ·refine ao hI 1 rfl bF aY rfl ?_
   refine dB ?_
   refine ru (fun h1=>?_) (fun h1=>?_)
   ·have h1':decide (n=0)=false:=by simpa using h1
    refine Ok ⟨?_,hI⟩
    rw [ho,h1']; rfl
   ·have h1':decide (n=0)=true:=by simpa using h1
    refine ao hI 1 rfl bB bn rfl ?_
    refine Run.callPure wV xo hI (ta s hs S) fun w' hI=>?_
    refine cK ?_
    refine jQ h1 ?_
    refine ru (fun h2=>⟨?_,hI⟩) (fun h2=>?_)
    ·have h2':ji s=false:=by simpa using h2
     rw [ho,h1',h2']; rfl
    ·have h2':ji s=true:=by simpa using h2
     refine ao hI 1 rfl aK aJ rfl ?_
     refine bp hks aC ?_
     refine di ?_
     refine jQ h2 ⟨?_,hI⟩
     rw [ho,h1',h2',Bool.true_and,Bool.true_and]
     congr 1
     rw [Bool.eq_iff_iff]
     simp
     omega
  intro t _ _ _ _ _ _ _ _ _ _ _ _ _ _ w'
  rintro ⟨rfl,hI⟩
  refine aS (fun hb1=>?_) (fun hb1=>?_)
  ·have hb1':eB (.mk k n s ks)=false:=by simpa using hb1
   exact hend (false,c+1) hI rfl (hsc _ (by rw [if_neg hk12,if_pos hk3,hb1']; rfl))
  ·have hb1':eB (.mk k n s ks)=true:=by simpa using hb1
   refine ao hI 1 rfl aK aJ rfl ?_
   refine xL ?_
   have hcb:Cb Tryz.prog Gy Tryz.f142 [.pointer (some ⟨b4,0,none⟩),.pointer (some ⟨b5,0,none⟩)] S
     (fun c:Int=>[ez bc c,.blk b4 (.cells #[.int .i64 deep] eW),.blk b5 (.cells #[.pointer (some ⟨bc,0,none⟩)] fK)]) (fun c=>0<=c/\c<=120)
     (fun c t=>(!(eL t (deep+1) c).1,(eL t (deep+1) c).2)) (fun v x=>∃ cs,v=.agg cs.toArray/\RdT S cs x) ks:=by
    refine ⟨EJ,FO,fun st x _ hst hf=>?_,fun st x v hx hst=>?_⟩
    ·have:=FH x (deep+1) st hst.2 (by simpa using hf)
     omega
    ·rintro ⟨cs,rfl,hcs⟩ w1 hI
     have hl:=hcs.length
     refine xx ?_
     unfold ux
     refine bS hI fun b w' hI=>?_
     refine aL hI 3 ai rfl (by simpa [Value.cells] using hl) ?_
     refine aX hI 1 aY rfl rfl ?_
     refine bT (by omega) ?_
     refine aX hI 2 nM rfl rfl ?_
     have hI:=hI.perm (M:=[.blk b4 (.cells #[.int .i64 deep] eW),.blk b5 (.cells #[.pointer (some ⟨bc,0,none⟩)] fK),.blk b (.cells (Value.agg cs.toArray).cells ab)]++[ez bc st])
      (List.perm_append_comm (l₁:=[_,_,_]) (l₂:=[ez bc st]))
     refine Run.call Bw AV hI (ih x hx S cs (deep+1) st bc hcs (by omega) (by omega) hst.1 hst.2) fun v' I' S' w'=>?_
     rintro ⟨rfl,rfl,rfl⟩ _ hI
     refine cK ?_
     have hI:=(hI.perm (M:=[ez bc (eL x (deep+1) st).2]++[.blk b4 (.cells #[.int .i64 deep] eW),.blk b5 (.cells #[.pointer (some ⟨bc,0,none⟩)] fK),.blk b (.cells (Value.agg cs.toArray).cells ab)])
      List.perm_append_comm).pick [true,true,true,false]
     exact ⟨_,_,_,rfl,hI,Ext.refl _ _ _,rfl,rfl,rfl⟩
   have hI:=hI.perm (M:=[.blk b3 (.cells #[.int .i64 k,.int .i64 n,.string s,kv] ab)]++[ez bc (c+1),.blk b4 (.cells #[.int .i64 deep] eW),.blk b5 (.cells #[.pointer (some ⟨bc,0,none⟩)] fK)]) (List.Perm.swap _ _ _)
   refine Run.call kL kM hI (lY hcb hks ⟨by omega,by omega⟩) fun v' I' S' w'=>?_
   rintro ⟨rfl,rfl,rfl⟩ _ hI
   refine cK ?_
   rw [BH] at hI ⊢
   have hI:=hI.perm (M:=[ez bc (i6 ks (deep+1) (c+1)).2,.blk b3 (.cells #[.int .i64 k,.int .i64 n,.string s,kv] ab),.blk b4 (.cells #[.int .i64 deep] eW),.blk b5 (.cells #[.pointer (some ⟨bc,0,none⟩)] fK)]) (List.Perm.swap _ _ _)
   refine hend (i6 ks (deep+1) (c+1)) hI (by simp) (hsc _ (by rw [if_neg hk12,if_pos hk3,hb1']; rfl))
 ·exact hend (false,c+1) hI rfl (hsc _ (by rw [if_neg hk12,if_neg hk3]))

theorem te {t:T} {S:al} {cs:List Value} (h:RdT S cs t):Pure Tryz.prog zD [.agg cs.toArray] S (.bool (dA t)):=by
 intro w hI
 have hl:=h.length
 refine sF ?_
 unfold l9
 refine bS hI fun b1 w' hI=>?_
 refine bi hI Hf fun b2 w' hI=>?_
 refine dy hI 1 (n:=1) rfl (by rw [aY]; rfl) rfl (Nat.le_of_ble_eq_true rfl) (by simp [Value.cells]; rfl) fun w' hI=>?_
 refine aL hI 0 ai rfl (by simpa [Value.cells] using hl) ?_
 refine Run.call (A:=[_]) (I:=[ez b2 0]) Bw AV hI (GX t S cs 1 0 b2 h (by omega) (by omega) (by omega) (by omega)) fun v' I' S' w'=>?_
 rintro ⟨rfl,rfl,rfl⟩ _ hI
 exact done hI (by rw [Gx])

end Go.Proofs.YtfcbhfjomgopbaaGreat
