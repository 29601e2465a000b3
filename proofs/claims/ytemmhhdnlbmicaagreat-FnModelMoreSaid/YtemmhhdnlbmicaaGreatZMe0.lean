/- Data that a function has made for itself: trees of blocks that nobody else knows. -/
import Derived.Test.YtemmhhdnlbmicaaGreatZMeS
import Derived.Test.YtemmhhdnlbmicaaGreatZMeF
import Derived.Test.YtemmhhdnlbmicaaGreatZMeh1
namespace Go.Proofs.YtemmhhdnlbmicaaGreat
open Go Go.RowKit
attribute [local irreducible] Run CondV ah be

abbrev bE:=List (Nat × Obj)
def bO (L:bE):List Item:=L.map fun p=>.blk p.1 p.2
theorem e9 (L M:bE):bO (L++M)=bO L++bO M:=by simp [bO]
def Ins (S:aF) (L:bE):Prop:=∀ p∈L,S p.1=some p.2
theorem Ins.mono {S S':aF} {L:bE} (h:Ins S L) (hs:Sle S S'):Ins S' L:=fun p hp=>hs _ _ (h p hp)
theorem Ins.left {S:aF} {L M:bE} (h:Ins S (L++M)):Ins S L:=fun p hp=>h p (List.mem_append_left _ hp)
theorem Ins.right {S:aF} {L M:bE} (h:Ins S (L++M)):Ins S M:=fun p hp=>h p (List.mem_append_right _ hp)
theorem ip {L:bE} {b:Nat}:b∈bX (bO L)↔∃ p∈L,p.1=b:=by
 simp only [bX,bO,List.mem_flatMap,List.mem_map]
 constructor
 ·rintro ⟨it,⟨p,hp,rfl⟩,hb⟩
  simp only [Item.foot,List.mem_singleton] at hb
  exact ⟨p,hp,hb.symm⟩
 ·rintro ⟨p,hp,rfl⟩
  exact ⟨_,⟨p,hp,rfl⟩,by simp [Item.foot]⟩

theorem Inv.publishAll {w0 w:World} {X:List Nat} {A:List Item}:∀ (L:bE) {S:aF},Inv w0 X (A++bO L) S w->
  ∃ S',Inv w0 X A S' w/\Sle S S'/\Ins S' L/\∀ b o,S' b=some o->S b=some o ∨ b∈bX (bO L)
 | [],S,h=>⟨S,by simpa [bO] using h,Sle.refl S,by intro p hp; simp at hp,fun b o hb=>.inl hb⟩
 | p::L,S,h=>by
  have hi:(A++bO (p::L))[A.length]?=some (.blk p.1 p.2):=by simp [bO]
  obtain ⟨h1,h2⟩:=h.publish hi
  have he:(A++bO (p::L)).eraseIdx A.length=A++bO L:=by simp [bO,List.eraseIdx_append_of_length_le]
  rw [he] at h1
  obtain ⟨S',h3,h4,h5,h6⟩:=publishAll L h1
  refine ⟨S',h3,h2.trans h4,fun q hq=>?_,fun b o hb=>?_⟩
  ·rcases List.mem_cons.1 hq with rfl|hq
   ·exact h4 _ _ (by simp [lA])
   ·exact h5 q hq
  ·rcases h6 b o hb with h7|h7
   ·simp only [lA] at h7
    split at h7
    ·rename_i e; right; rw [ip]; exact ⟨p,List.mem_cons_self ..,e.symm⟩
    ·exact .inl h7
   ·right
    obtain ⟨q,hq,e⟩:=ip.1 h7
    exact ip.2 ⟨q,List.mem_cons_of_mem _ hq,e⟩

/- a slice of elements, its array and all behind it being the function's own -/
def TrSl {α:Type} (k:Nat) (R:bE->List Value->α->Prop) (L:bE) (v:Value) (xs:List α):Prop:=
 ∃ a cap,v=.slice a xs.length cap/\xs.length<=cap/\cap<=maxLen/\
  ((xs=[]/\L=[]) ∨ ∃ b c E,∃ Ls:List bE,a=some ⟨b,0,none⟩/\L=(b,.cells c E)::Ls.flatten/\Ls.length=xs.length/\cap * k<=c.size/\
   ∀ i (h:i<xs.length) (h':i<Ls.length),R Ls[i] (bw c (i * k) k) xs[i])
inductive TrT:bE->List Value->T->Prop
 | nil {k n:Int} {s:ByteArray} {a:Option Addr} {cap:Nat} (hk:inI k) (hn:inI n) (hs:s.size<=maxLen) (hc:cap<=maxLen) :
   TrT [] [.int .i64 k,.int .i64 n,.string s,.slice a 0 cap] (.mk k n s [])
 | cons {k n:Int} {s:ByteArray} {kids:List T} {b cap:Nat} {c:Array Value} {E:TypeId} {Ls:List bE} (hk:inI k) (hn:inI n) (hs:s.size<=maxLen) (hl:kids.length<=cap) (hc:cap<=maxLen)
   (hLs:Ls.length=kids.length) (hsz:cap * 4<=c.size) (h:∀ i (h:i<kids.length) (h':i<Ls.length),TrT Ls[i] (bw c (i * 4) 4) kids[i]) :
   TrT ((b,.cells c E)::Ls.flatten) [.int .i64 k,.int .i64 n,.string s,.slice (some ⟨b,0,none⟩) kids.length cap] (.mk k n s kids)
theorem TrT.iff {L:bE} {cs:List Value} {t:T}:TrT L cs t ↔
  ∃ ks,cs=[.int .i64 t.kind,.int .i64 t.n,.string t.name,ks]/\inI t.kind/\inI t.n/\t.name.size<=maxLen/\TrSl 4 TrT L ks t.kids:=by
 constructor
 ·intro h
  cases h with
  | nil hk hn hs hc=>exact ⟨_,rfl,hk,hn,hs,_,_,rfl,Nat.zero_le _,hc,.inl ⟨rfl,rfl⟩⟩
  | cons hk hn hs hl hc hLs hsz h=>exact ⟨_,rfl,hk,hn,hs,_,_,rfl,hl,hc,.inr ⟨_,_,_,_,rfl,rfl,hLs,hsz,h⟩⟩
 ·obtain ⟨k,n,s,kids⟩:=t
  rintro ⟨ks,rfl,hk,hn,hs,a,cap,rfl,hl,hc,h⟩
  rcases h with ⟨h,rfl⟩|⟨b,c,E,Ls,rfl,rfl,hLs,hsz,h⟩
  ·simp only [T.kids] at h
   subst h
   exact TrT.nil hk hn hs hc
  ·exact TrT.cons hk hn hs hl hc hLs hsz h
theorem TrT.length {L:bE} {cs:List Value} {t:T} (h:TrT L cs t):cs.length=4:=by
 obtain ⟨ks,rfl,_⟩:=TrT.iff.1 h; rfl
theorem TrT.one {L:bE} {cs:List Value} {t:T} (h:TrT L cs t):∀ u∈cs,u.oneCell'=true:=by
 obtain ⟨ks,rfl,_,_,_,a,cap,rfl,_⟩:=TrT.iff.1 h
 intro u hu
 simp at hu
 rcases hu with rfl|rfl|rfl|rfl <;> rfl
theorem RdT.one {S:aF} {cs:List Value} {t:T} (h:RdT S cs t):∀ u∈cs,u.oneCell'=true:=by
 obtain ⟨ks,rfl,_,_,_,a,cap,rfl,_⟩:=RdT.iff.1 h
 intro u hu
 simp at hu
 rcases hu with rfl|rfl|rfl|rfl <;> rfl
theorem Cy {S:aF} {Ls:List bE} (h:Ins S Ls.flatten) {i:Nat} (hi:i<Ls.length):Ins S Ls[i]:=
 fun p hp=>h p (List.mem_flatten.2 ⟨_,List.getElem_mem hi,hp⟩)
theorem TrSl.rd {α:Type} {S:aF} {k:Nat} {R:bE->List Value->α->Prop} {R':List Value->α->Prop} {L:bE} {v:Value} {xs:List α} (h:TrSl k R L v xs) (hi:Ins S L)
  (hR:∀ L cs x,Ins S L->R L cs x->R' cs x):RdSl S k R' v xs:=by
 obtain ⟨a,cap,rfl,hl,hc,h⟩:=h
 refine ⟨a,cap,rfl,hl,hc,?_⟩
 rcases h with ⟨h,_⟩|⟨b,c,E,Ls,rfl,rfl,hLs,hsz,h⟩
 ·exact .inl h
 ·refine .inr ⟨b,0,c,E,(0,0),rfl,hi _ (List.mem_cons_self ..),fun i h1=>?_⟩
  rw [Nat.zero_add]
  exact hR _ _ _ (Cy (fun p hp=>hi p (List.mem_cons_of_mem _ hp)) (by omega)) (h i h1 (by omega))
theorem TrT.rd {S:aF} {L:bE} {cs:List Value} {t:T} (h:TrT L cs t) (hi:Ins S L):RdT S cs t:=by
 induction h with
 | nil hk hn hs hc=>exact RdT.nil hk hn hs hc
 | cons hk hn hs hl hc hLs hsz h ih=>
  refine RdT.cons hk hn hs hl hc (hi _ (List.mem_cons_self ..)) (o:=0) fun i h1=>?_
  rw [Nat.zero_add]
  exact ih i h1 (by omega) (Cy (fun p hp=>hi p (List.mem_cons_of_mem _ hp)) (by omega))
def TrC (L:bE) (cs:List Value) (c:C):Prop:=∃ hd ks L1 L2,cs=hd++[ks]/\L=L1++L2/\TrT L1 hd c.head/\TrSl 4 TrT L2 ks c.body
theorem TrC.rd {S:aF} {L:bE} {cs:List Value} {c:C} (h:TrC L cs c) (hi:Ins S L):RdC S cs c:=by
 obtain ⟨hd,ks,L1,L2,rfl,rfl,h1,h2⟩:=h
 exact ⟨hd,ks,rfl,h1.rd hi.left,h2.rd hi.right fun _ _ _ hi h=>h.rd hi⟩
theorem TrC.length {L:bE} {cs:List Value} {c:C} (h:TrC L cs c):cs.length=5:=by
 obtain ⟨hd,ks,L1,L2,rfl,rfl,h1,h2⟩:=h; simp [h1.length]
theorem TrC.one {L:bE} {cs:List Value} {c:C} (h:TrC L cs c):∀ u∈cs,u.oneCell'=true:=by
 obtain ⟨hd,ks,L1,L2,rfl,rfl,h1,a,cap,rfl,_⟩:=h
 intro u hu
 rcases List.mem_append.1 hu with hu|hu
 ·exact h1.one u hu
 ·simp at hu; subst hu; rfl

section
variable {P:Program} {w w0:World} {X:List Nat} {L:List Item} {S:aF} {K:Value->World->Prop}
theorem Run.call0 {f:FuncId} {fn:Func} {args:List Value} {Post:Value->List Item->aF->Prop}
  (hf:P.funcs[f]?=some fn) (hn:(fn.name == "runtime.NumGoroutine" || fn.body.isNone)=false) (h:Inv w0 X L S w) (hc:Tri P f args [] S Post)
  (hk:∀ v I' S' w',Post v I' S'->Sle S S'->Inv w0 X (L++I') S' w'->K v w'):Run P (aJ (.func (.func f) #[] #[]) args) w K:=
 Run.call (A:=L) (I:=[]) hf hn (by simpa using h) hc hk
/- x.f = v, x a struct in a block of the function's own -/
theorem ji {T U ty ty' E:TypeId} {f d b:Nat} {c:Array Value} {v:Value} (hI:Inv w0 X L S w) (i:Nat) (hi:L[i]?=some (.blk b (.cells c E))) (hf:fx P T f=some d) (hU:oj P U=true) (hlt:Nat.blt d c.size=true)
  (hv:v.cells=#[v]) (h1:v.oneCell'=true)
  (hk:∀ w',Inv w0 X (L.set i (.blk b (.cells (c.setIfInBounds d v) E))) S w'->K undef w') :
  Run P (sOp (.fieldAddr T (.const (.pointer (some ⟨b,0,none⟩))) f) ty) w fun q w'=>Run P (sOp (.store U (.const q) (.const v)) ty') w' K:=by
 have hlt:d<c.size:=by simpa [Nat.blt_eq] using hlt
 refine bi hf ?_
 rw [Nat.zero_add]
 refine fg hI i (n:=1) (by rw [hv]; rfl) (by rw [hU]; rfl) hi (by omega) (by rw [hv]; simpa using h1) fun w' hI'=>hk w' ?_
 have:bu c d v.cells.toList=c.setIfInBounds d v:=by
  rw [hv]
  apply Array.toList_inj.1
  simp only [bu,Array.toList_setIfInBounds]
  have hl:d<c.toList.length:=by simpa using hlt
  rw [List.set_eq_take_append_cons_drop,if_pos hl]
  simp
 rw [this] at hI'
 exact hI'
theorem Ey {T ty E:TypeId} {o b n:Nat} {c:Array Value} {v:Value} (hI:Inv w0 X L S w) (i:Nat) (hi:L[i]?=some (.blk b (.cells c E))) (hT:tF P T=some n) (hn:v.cells.size=n) (hfit:Nat.ble (o+n) c.size=true)
  (h1:∀ u∈v.cells.toList,u.oneCell'=true) (hk:∀ w',Inv w0 X (L.set i (.blk b (.cells (bu c o v.cells.toList) E))) S w'->K undef w') :
  Run P (sOp (.store T (.const (.pointer (some ⟨b,o,none⟩))) (.const v)) ty) w K:=
 fg hI i hn (by rw [hT]; simp) hi (Nat.le_of_ble_eq_true hfit) h1 hk
/- x = v, x a whole block of the function's own -/
theorem bg {T ty E:TypeId} {b n:Nat} {c cs:Array Value} (hI:Inv w0 X L S w) (i:Nat) (hi:L[i]?=some (.blk b (.cells c E))) (hT:tF P T=some n) (hn:cs.size=n) (hc:c.size=n)
  (h1:∀ u∈cs.toList,u.oneCell'=true) (hk:∀ w',Inv w0 X (L.set i (.blk b (.cells cs E))) S w'->K undef w') :
  Run P (sOp (.store T (.const (.pointer (some ⟨b,0,none⟩))) (.const (.agg cs))) ty) w K:=by
 refine fg hI i (v:=.agg cs) (n:=n) hn (by rw [hT]; simp) hi (by omega) h1 fun w' hI'=>hk w' ?_
 have:bu c 0 (Value.agg cs).cells.toList=cs:=by
  rw [rx _ _ (by simp [Value.cells,hn,hc])]
  simp [Value.cells]
 rw [this] at hI'
 exact hI'
/- s[i] = v, s a slice of the function's own that begins at its block's head -/
end

theorem TrSl.nil {α:Type} {k:Nat} {R:bE->List Value->α->Prop} {a:Option Addr} {cap:Nat} (hc:cap<=maxLen):TrSl k R [] (.slice a 0 cap) ([]:List α):=
 ⟨a,cap,rfl,Nat.zero_le _,hc,.inl ⟨rfl,rfl⟩⟩
/- the first k' elements of an array under construction -/
def Part {α:Type} (k:Nat) (R:bE->List Value->α->Prop) (c:Array Value) (Ls:List bE) (xs:List α):Prop:=
 Ls.length=xs.length/\∀ i (h:i<xs.length) (h':i<Ls.length),R Ls[i] (bw c (i * k) k) xs[i]
theorem Part.nil {α:Type} (k:Nat) (R:bE->List Value->α->Prop) (c:Array Value):Part k R c [] ([]:List α):=⟨rfl,fun i h=>by simp at h⟩
theorem Part.snoc {α:Type} {k:Nat} {R:bE->List Value->α->Prop} {c:Array Value} {Ls:List bE} {xs:List α} (h:Part k R c Ls xs) {cs:List Value} {L:bE} {x:α} (hx:R L cs x) (hl:cs.length=k)
  (hfit:(xs.length+1) * k<=c.size):Part k R (bu c (xs.length * k) cs) (Ls++[L]) (xs++[x]):=by
 have hf:xs.length * k+cs.length<=c.size:=by rw [hl]; rw [Nat.add_mul,Nat.one_mul] at hfit; exact hfit
 refine ⟨by simp [h.1],fun i h1 h2=>?_⟩
 by_cases hi:i<xs.length
 ·have h3:i<Ls.length:=by rw [h.1]; exact hi
  rw [List.getElem_append_left h3,List.getElem_append_left hi,jL hf]
  ·exact h.2 i hi h3
  ·left
   have:(i+1) * k<=xs.length * k:=Nat.mul_le_mul_right _ hi
   rw [Nat.add_mul,Nat.one_mul] at this
   exact this
 ·have hi':i=xs.length:=by simp at h1; omega
  subst hi'
  have h3:xs.length=Ls.length:=h.1.symm
  rw [List.getElem_append_right (by omega),List.getElem_append_right (by omega)]
  simp only [h3,Nat.sub_self,List.getElem_cons_zero]
  rw [<- h3,<- hl,ie (by rw [hl] at hf ⊢; exact hf)]
  exact hx
theorem Part.sl {α:Type} {k:Nat} {R:bE->List Value->α->Prop} {b:Nat} {c:Array Value} {E:TypeId} {Ls:List bE} {xs:List α} {cap:Nat} (h:Part k R c Ls xs) (h1:xs.length<=cap) (h2:cap<=maxLen) (h3:cap * k<=c.size) :
  TrSl k R ((b,.cells c E)::Ls.flatten) (.slice (some ⟨b,0,none⟩) xs.length cap) xs:=
 ⟨_,cap,rfl,h1,h2,.inr ⟨b,c,E,Ls,rfl,rfl,h.1,h3,h.2⟩⟩

end Go.Proofs.YtemmhhdnlbmicaaGreat

/- 'and', 'or' as the code has them; slices of strings; a list made of constants. -/
namespace Go.Proofs.YtemmhhdnlbmicaaGreat
open Go Go.RowKit
section
variable {P:Program} {w:World} {K:Value->World->Prop} {ty:TypeId}
theorem ad {b:Bool} {A B:Prop} (h:A):ah (.bool b) b A B:=by unfold ah; simp only [if_true]; exact h
theorem af {c b:Bool} {A B:Prop} (hc:c≠b) (h:B):ah (.bool c) b A B:=by unfold ah; simp only [if_neg hc]; exact h
attribute [local irreducible] Run CondV ah be
theorem iD {a:Bool} {v:Value} {A:Prop} (ht:a=true->A) (hf:a=false->K (.bool false) w):ah (.bool a) true A (Run P (sOp (.pick (.const (.bool a)) (.const v) (.const (.bool false))) ty) w K):=
 HX ht fun h=>by
  have h':a=false:=by simpa using h
  refine qL ?_
  rw [h']
  exact hf h'
theorem gx {a:Bool} {v u:Value} (ha:a=true) (hk:K v w):Run P (sOp (.pick (.const (.bool a)) (.const v) (.const u)) ty) w K:=by
 refine qL ?_
 rw [ha]
 exact hk
theorem lW {v:Value} {A:Prop} (hk:K (.bool false) w):ah (.bool false) true A (Run P (sOp (.pick (.const (.bool false)) (.const v) (.const (.bool false))) ty) w K):=
 iD (fun h=>by cases h) fun _=>hk
theorem Ec {a:Bool} {v:Value} {A:Prop} (ht:a=true->K (.bool true) w) (hf:a=false->A):ah (.bool a) false A (Run P (sOp (.pick (.const (.bool a)) (.const (.bool true)) (.const v)) ty) w K):=
 HX hf fun h=>by
  have h':a=true:=by simpa using h
  refine qL ?_
  rw [h']
  exact ht h'
theorem vP {a:Bool} {v u:Value} (ha:a=false) (hk:K v w):Run P (sOp (.pick (.const (.bool a)) (.const u) (.const v)) ty) w K:=by
 refine qL ?_
 rw [ha]
 exact hk
theorem Nd {v:Value} {A:Prop} (hk:K (.bool true) w):ah (.bool true) false A (Run P (sOp (.pick (.const (.bool true)) (.const (.bool true)) (.const v)) ty) w K):=
 Ec (fun _=>hk) fun h=>by cases h
end

def sK (cs:List Value) (s:ByteArray):Prop:=cs=[.string s]
def oi (cs:List Value) (n:Int):Prop:=cs=[.int .i64 n]
section
variable {P:Program} {w w0:World} {X:List Nat} {L:List Item} {S:aF} {K:Value->World->Prop}
attribute [local irreducible] Run CondV ah be
/- an operation whose run is known in every world: it makes one block -/
theorem qd (h:Inv w0 X L S w) {s:Sem Next} {v:Nat->Value} {o:Obj} (hr:s.run P w=.ok (.value (v w.heap.size)) { w with heap:=w.heap.push o })
  (hk:∀ b w',Inv w0 X (L++[.blk b o]) S w'->K (v b) w'):Run P s w K:=Run.of hr (hk _ _ (h.alloc o))
/- the last item is published -/
theorem Inv.publishLast {b:Nat} {o:Obj} (h:Inv w0 X (L++[.blk b o]) S w):Inv w0 X L (lA S b o) w/\Sle S (lA S b o):=by
 have hi:(L++[Item.blk b o])[L.length]?=some (.blk b o):=by simp
 have:=h.publish hi
 rwa [show (L++[Item.blk b o]).eraseIdx L.length=L by simp [List.eraseIdx_append_of_length_le]] at this
/- s[i] of a slice of one-cell elements -/
theorem i6 {α:Type} {T U ty ty' E:TypeId} {R:List Value->α->Prop} {v u:Value} {xs:List α} (hI:Inv w0 X L S w) (h:RdSl S 1 R v xs) (hu:dy P T=some (E,1)) (hU:oj P U=true)
  {i:Nat} (hi:i<xs.length) (hR:∀ cs,R cs xs[i]->cs=[u]) (hk:K u w) :
  Run P (sOp (.indexAddr T (.const v) (.const (.int .i64 i))) ty) w fun p w'=>Run P (sOp (.load U (.const p)) ty') w' K:=by
 obtain ⟨b,o,cap,c,E',fz,rfl,hS,hr⟩:=h.at_ hi
 refine bk hu hi ?_
 refine dY hU ?_ hk
 rw [hI.cellS hS]
 exact bn (hR _ hr) 0 u rfl
end
theorem RdSl.ofCells {α:Type} {S:aF} {R:List Value->α->Prop} {b n:Nat} {c:Array Value} {E:TypeId} {fz:Nat × Nat} {xs:List α} (hS:S b=some (.cells c E fz)) (hn:xs.length=n) (hm:n<=maxLen)
  (h:∀ i (h:i<xs.length),R (bw c i 1) xs[i]):RdSl S 1 R (.slice (some ⟨b,0,none⟩) n n) xs:=by
 subst hn
 exact ⟨_,_,rfl,Nat.le_refl _,hm,.inr ⟨b,0,c,E,fz,rfl,hS,fun i hi=>by rw [Nat.zero_add,Nat.mul_one]; exact h i hi⟩⟩

end Go.Proofs.YtemmhhdnlbmicaaGreat

/- Which terms are valid: the two ways of saying it, and that they agree. No program in sight. -/
namespace Go.Proofs.YtemmhhdnlbmicaaGreat
open Go

def signs:List ByteArray:=[⟨#[43]⟩,⟨#[45]⟩,⟨#[42]⟩,⟨#[47,47]⟩,⟨#[61]⟩,⟨#[92,61]⟩,⟨#[61,61]⟩,⟨#[60]⟩,⟨#[62]⟩,⟨#[61,60]⟩,⟨#[62,61]⟩,⟨#[61,58,61]⟩,⟨#[46]⟩,⟨#[91,93]⟩,⟨#[33]⟩]
def oU (b:UInt8):Bool:=decide (97<=b.toNat) && decide (b.toNat<=122)
def nF (s:ByteArray):Bool:=s.data.toList.all oU
def kG (s:ByteArray):Bool:=nF s && (decide (1<=s.size) && decide (s.size<=6))
def lM (s:ByteArray):Bool:=kG s || signs.any fun x=>decide (x=s)
def emptyB:ByteArray:=⟨#[]⟩
def ez (t:T):Bool:=
 if t.kind=1 then decide (0<=t.n) && (decide (t.n<=25) && (decide (t.name=emptyB) && decide (t.kids.length=0)))
 else if t.kind=2 then decide (-999<=t.n) && (decide (t.n<=999) && (decide (t.name=emptyB) && decide (t.kids.length=0)))
 else if t.kind=3 then decide (t.n=0) && (lM t.name && decide (t.kids.length<=4))
 else false
mutual
def fm:T->Int->Bool
 | .mk k n s ks,d=>if d<1 then false else ez (.mk k n s ks) && eW ks (d - 1)
def eW:List T->Int->Bool
 | [],_=>true
 | t::ts,d=>fm t d && eW ts d
end
mutual
def eR:T->Int
 | .mk _ _ _ ks=>1+dX ks
def dX:List T->Int
 | []=>0
 | t::ts=>eR t+dX ts
end
/- the count that stops -/
mutual
def iJ:T->Int->Int
 | .mk _ _ _ ks,most=>gg ks 1 most
def gg:List T->Int->Int->Int
 | [],n,_=>n
 | t::ts,n,most=>if n<=most then gg ts (n+iJ t (most - n)) most else n
end
def ft (t:T):Bool:=fm t 30 && decide (eR t<=120)

mutual
theorem ra:∀ t:T,1<=eR t
 | .mk _ _ _ ks=>by simp only [eR]; have:=fA ks; omega
theorem fA:∀ ts:List T,0<=dX ts
 | []=>by simp [dX]
 | t::ts=>by simp only [dX]; have:=ra t; have:=fA ts; omega
end
mutual
theorem ut:∀ (t:T) (most:Int),0<=most->(eR t<=most->iJ t most=eR t)/\(most<eR t->most<iJ t most/\iJ t most<=eR t)
 | .mk _ _ _ ks,most,h=>by
  simp only [eR,iJ]
  have:=BZ ks 1 most h (by omega)
  exact this
theorem BZ:∀ (ts:List T) (n most:Int),0<=most->1<=n->(n+dX ts<=most->gg ts n most=n+dX ts)/\(most<n+dX ts->most<gg ts n most/\gg ts n most<=n+dX ts)
 | [],n,most,h,h1=>by
  simp only [dX,gg]
  exact ⟨fun _=>by omega,fun _=>by omega⟩
 | t::ts,n,most,h,h1=>by
  simp only [dX,gg]
  have hp:=ra t
  have hl:=fA ts
  by_cases hn:n<=most
  ·rw [if_pos hn]
   have ht:=ut t (most - n) (by omega)
   by_cases hc:eR t<=most - n
   ·rw [ht.1 hc]
    have hr:=BZ ts (n+eR t) most h (by omega)
    exact ⟨fun h2=>by rw [hr.1 (by omega)]; omega,fun h2=>by have:=hr.2 (by omega); omega⟩
   ·have h3:=ht.2 (by omega)
    have h4:gg ts (n+iJ t (most - n)) most=n+iJ t (most - n):=by
     cases ts with
     | nil=>rfl
     | cons u us=>rw [gg,if_neg (by omega)]
    rw [h4]
    exact ⟨fun h2=>by omega,fun h2=>by omega⟩
  ·rw [if_neg hn]
   exact ⟨fun h2=>by omega,fun h2=>by omega⟩
end
theorem J5 (t:T):decide (iJ t 120<=120)=decide (eR t<=120):=by
 have h:=ut t 120 (by omega)
 by_cases hc:eR t<=120
 ·rw [h.1 hc]
 ·have:=h.2 (by omega)
  rw [decide_eq_false (by omega),decide_eq_false hc]

/- the scan: it counts as it goes -/
mutual
def fD:T->Int->Int->Bool × Int
 | .mk k n s ks,deep,c=>
  if 120<c+1 ∨ 30<deep then (false,c+1)
  else if k=1 ∨ k=2 then (ez (.mk k n s ks),c+1)
  else if k=3 then (if ez (.mk k n s ks) then jH ks (deep+1) (c+1) else (false,c+1))
  else (false,c+1)
def jH:List T->Int->Int->Bool × Int
 | [],_,c=>(true,c)
 | t::ts,deep,c=>if (fD t deep c).1 then jH ts deep (fD t deep c).2 else (false,(fD t deep c).2)
end
theorem Ex {k n:Int} {s:ByteArray} {ks:List T} (h:ez (.mk k n s ks)=true) (hk:k=1 ∨ k=2):ks=[]:=by
 unfold ez at h
 simp only [T.kind,T.n,T.name,T.kids] at h
 rcases hk with rfl|rfl <;> simp at h <;> exact h.2.2.2
theorem KA {k n:Int} {s:ByteArray} {ks:List T} (h:ez (.mk k n s ks)=true):k=1 ∨ k=2 ∨ k=3:=by
 unfold ez at h
 simp only [T.kind,T.n,T.name,T.kids] at h
 by_cases h1:k=1
 ·exact .inl h1
 ·by_cases h2:k=2
  ·exact .inr (.inl h2)
  ·by_cases h3:k=3
   ·exact .inr (.inr h3)
   ·simp [h1,h2,h3] at h
mutual
theorem zx:∀ (t:T) (deep c:Int),(fD t deep c).1=(fm t (31 - deep) && decide (c+eR t<=120))/\((fD t deep c).1=true->(fD t deep c).2=c+eR t)
 | .mk k n s ks,deep,c=>by
  have hl:=fA ks
  rw [show eR (T.mk k n s ks)=1+dX ks from rfl]
  simp only [fD,fm]
  by_cases h1:120<c+1 ∨ 30<deep
  ·rw [if_pos h1]
   refine ⟨?_,fun h=>by cases h⟩
   rcases h1 with h1|h1
   ·rw [decide_eq_false (show ¬ (c+(1+dX ks)<=120) by omega),Bool.and_false]
   ·rw [if_pos (show 31 - deep<1 by omega)]; rfl
  ·rw [if_neg h1,if_neg (show ¬ (31 - deep<1) by omega)]
   by_cases h2:k=1 ∨ k=2
   ·rw [if_pos h2]
    cases ho:ez (.mk k n s ks) with
    | false=>exact ⟨rfl,fun h=>by cases h⟩
    | true=>
     have:=Ex ho h2
     subst this
     rw [show dX []=0 from rfl]
     simp only [eW,Bool.true_and]
     exact ⟨by rw [decide_eq_true (show c+(1+0)<=120 by omega)],fun _=>by omega⟩
   ·rw [if_neg h2]
    by_cases h3:k=3
    ·rw [if_pos h3]
     cases ho:ez (.mk k n s ks) with
     | false=>exact ⟨rfl,fun h=>by cases h⟩
     | true=>
      simp only [if_true,Bool.true_and]
      have:=Gi ks (deep+1) (c+1)
      rw [show 31 - (deep+1)=31 - deep - 1 by omega] at this
      rw [show c+(1+dX ks)=c+1+dX ks by omega]
      refine ⟨?_,this.2⟩
      rw [this.1]
      cases ks with
      | nil=>rw [show dX []=0 from rfl,decide_eq_true (show c+1+0<=120 by omega)]; rfl
      | cons t ts=>simp
    ·rw [if_neg h3]
     have ho:ez (.mk k n s ks)=false:=by
      rw [<- Bool.not_eq_true]
      intro h
      rcases KA h with e|e|e
      ·exact h2 (.inl e)
      ·exact h2 (.inr e)
      ·exact h3 e
     rw [ho]
     exact ⟨rfl,fun h=>by cases h⟩
theorem Gi:∀ (ts:List T) (deep c:Int),(jH ts deep c).1=(eW ts (31 - deep) && (ts.isEmpty || decide (c+dX ts<=120)))/\((jH ts deep c).1=true->(jH ts deep c).2=c+dX ts)
 | [],deep,c=>by simp [jH,eW,dX]
 | t::ts,deep,c=>by
  have ht:=zx t deep c
  have hp:=fA ts
  rw [show dX (t::ts)=eR t+dX ts from rfl]
  simp only [jH,eW,List.isEmpty_cons,Bool.false_or]
  cases h1:(fD t deep c).1 with
  | false=>
   rw [h1] at ht
   have h2:=ht.1
   refine ⟨?_,fun h=>by cases h⟩
   simp only [Bool.false_eq_true,if_false]
   cases hs:fm t (31 - deep) with
   | false=>rfl
   | true=>
    rw [hs,Bool.true_and] at h2
    have:¬ (c+eR t<=120):=of_decide_eq_false h2.symm
    rw [decide_eq_false (show ¬ (c+(eR t+dX ts)<=120) by omega),Bool.and_false]
  | true=>
   rw [h1] at ht
   have h2:=ht.1
   have h3:=ht.2 rfl
   simp only [if_true]
   rw [h3]
   have hs:fm t (31 - deep)=true/\c+eR t<=120:=by
    have:=h2.symm
    simpa using this
   have hl:=Gi ts deep (c+eR t)
   rw [show c+(eR t+dX ts)=c+eR t+dX ts by omega]
   refine ⟨?_,hl.2⟩
   rw [hl.1,hs.1,Bool.true_and]
   cases ts with
   | nil=>rw [show dX []=0 from rfl,decide_eq_true (show c+eR t+0<=120 by omega)]; rfl
   | cons u us=>simp
end
theorem HB (t:T):(fD t 1 0).1=ft t:=by
 rw [(zx t 1 0).1,ft]
 simp

end Go.Proofs.YtemmhhdnlbmicaaGreat

/- laws.toTerm and its kin: a copy in memory of its own. -/
namespace Go.Proofs.YtemmhhdnlbmicaaGreat
open Go Go.RowKit
attribute [local irreducible] Run CondV ah be

mutual
def wT:T->Nat
 | .mk _ _ s ks=>s.size+ks.length+wL ks
def wL:List T->Nat
 | []=>0
 | t::ts=>wT t+wL ts
end
theorem jS:∀ {ts:List T} {t:T},t∈ts->wT t<=wL ts
 | x::xs,t,h=>by
  simp only [wL]
  rcases List.mem_cons.1 h with rfl|h
  ·omega
  ·have:=jS h; omega

abbrev Lg {α:Type} (k:Nat) (R:bE->List Value->α->Prop) (S:aF) (xs:List α):Value->List Item->aF->Prop:=
 fun v I' S'=>S'=S/\∃ L,I'=bO L/\TrSl k R L v xs
abbrev FV (S:aF) (t:T):Value->List Item->aF->Prop:=fun v I' S'=>S'=S/\∃ cs L,v=.agg cs.toArray/\I'=bO L/\TrT L cs t

def wC (c:C):Nat:=wT c.head+c.body.length+wL c.body
def wP:List C->Nat
 | []=>0
 | c::cs=>wC c+wP cs
theorem Dw:∀ {cs:List C} {c:C},c∈cs->wC c<=wP cs
 | x::xs,c,h=>by
  simp only [wP]
  rcases List.mem_cons.1 h with rfl|h
  ·omega
  ·have:=Dw h; omega
abbrev Ne (S:aF) (c:C):Value->List Item->aF->Prop:=fun v I' S'=>S'=S/\∃ cs L,v=.agg cs.toArray/\I'=bO L/\TrC L cs c
end Go.Proofs.YtemmhhdnlbmicaaGreat

/- The reference's TermValid and what it calls. -/
namespace Go.Proofs.YtemmhhdnlbmicaaGreat
open Go Go.RowKit
attribute [local irreducible] Run CondV ah be

theorem ld {α:Type} (p:α->Bool) (l:List α) (k:Nat) (h:k<l.length):(l.drop k).all p=(p l[k] && (l.drop (k+1)).all p):=by
 rw [List.drop_eq_getElem_cons h,List.all_cons]
theorem x1 {α:Type} (p:α->Bool) (l:List α) (k:Nat) (h:k<l.length):(l.drop k).any p=(p l[k] || (l.drop (k+1)).any p):=by
 rw [List.drop_eq_getElem_cons h,List.any_cons]
theorem li (s:ByteArray):s.data.toList.length=s.size:=by rw [Array.length_toList]; rfl
theorem FT (s:ByteArray) (k:Nat) (h:k<s.size):s.data.toList[k]'(by rw [li]; exact h)=s[k]:=rfl

theorem rg (s:ByteArray) (hs:s.size<=maxLen) (S:aF):Pure Tryz.prog Hp [.string s] S (.bool (kG s)):=by
 intro w hI
 simp only [maxLen] at hs
 refine zp ?_
 unfold vb
 refine ⟨fun i w'=>∃ k:Nat,k<=s.size/\i=.int .i64 k/\(s.data.toList.drop k).all oU=nF s/\Inv w [] [] S w',fun i _=>s.size - (intOf i).toNat,⟨0,Nat.zero_le _,rfl,rfl,hI⟩,?_⟩
 intro t3 _ _ _ _ _ _ _ _ _ _ _ _ _ _ _ _ _ w'
 rintro ⟨k,hk,rfl,hrel,hI⟩
 refine jz bj ?_
 refine bW ?_
 refine bl (fun hki=>?_) (fun hki=>?_)
 ·have hk':k<s.size:=by omega
  have hstep:=ld oU s.data.toList k (by rw [li]; exact hk')
  rw [FT s k hk'] at hstep
  refine ⟨fun t w'=>t=.bool (!oU s[k])/\Inv w [] [] S w',?_,?_⟩
  ·refine jy bj hk' ?_
   refine bW ?_
   refine Ec (fun h=>⟨?_,hI⟩) (fun h=>?_)
   ·have h:=of_decide_eq_true h
    rw [oU,decide_eq_false (show ¬ 97<=s[k].toNat by omega)]; rfl
   ·refine jy bj hk' ?_
    refine eh ?_
    refine vP h ⟨?_,hI⟩
    have h:=of_decide_eq_false h
    rw [oU,decide_eq_true (show 97<=s[k].toNat by omega),Bool.true_and]
    by_cases h2:s[k].toNat<=122
    ·rw [decide_eq_true h2,decide_eq_false (by omega)]; rfl
    ·rw [decide_eq_false h2,decide_eq_true (by omega)]; rfl
  intro t _ _ _ _ _ _ _ _ _ w'
  rintro ⟨rfl,hI⟩
  refine ba (fun h=>done hI ?_) (fun h=>?_)
  ·simp at h
   rw [kG,<- hrel,hstep,h]; rfl
  ·simp at h
   refine bN (by omega) ?_
   refine ⟨⟨k+1,hk',rfl,by rw [<- hrel,hstep,h]; rfl,hI⟩,by simp [intOf]; omega⟩
 ·have:k=s.size:=by omega
  subst this
  have hl:nF s=true:=by rw [<- hrel,<- li,List.drop_length]; rfl
  refine jz bj ?_
  refine mw ?_
  refine iD (fun h=>?_) (fun h=>done hI ?_)
  ·refine jz bj ?_
   refine fX ?_
   refine gx h (done hI ?_)
   have h:=of_decide_eq_true h
   rw [kG,hl,decide_eq_true (show 1<=s.size by omega)]
   by_cases h2:s.size<=6
   ·rw [decide_eq_true h2,decide_eq_true (by omega)]; rfl
   ·rw [decide_eq_false h2,decide_eq_false (by omega)]; rfl
  ·have h:=of_decide_eq_false h
   rw [kG,hl,decide_eq_false (show ¬ 1<=s.size by omega)]; rfl

def tZ:Array Value:=(signs.map Value.string).toArray
theorem EL {S:aF} {b:Nat} {E:TypeId} (hS:S b=some (.cells tZ E)):RdSl S 1 sK (.slice (some ⟨b,0,none⟩) 15 15) signs:=by
 refine RdSl.ofCells hS rfl (by decide) ?_
 intro i hi
 have hi':i<15:=hi
 match i,hi' with
 | 0,_|1,_|2,_|3,_|4,_|5,_|6,_|7,_|8,_|9,_|10,_|11,_|12,_|13,_|14,_=>rfl
abbrev Cg (S:aF):Value->List Item->aF->Prop:=fun v I' S'=>I'=[]/\Sle S S'/\RdSl S' 1 sK v signs
theorem Ew {S:aF} {b n:Nat} {o:Obj} (h:n<=b) (hs:Sle S (lA S b o)):Ext n [] S (lA S b o):=
 ⟨hs,fun c o' hc=>by
  simp only [lA] at hc
  split at hc
  ·rename_i e; subst e; exact .inr (.inr h)
  ·exact .inl hc⟩
theorem pD (S:aF):Tri Tryz.prog FB [] [] S (Cg S):=by
 intro w hI
 refine wy ?_
 unfold rz
 refine qd (v:=fun b=>.slice (some ⟨b,0,none⟩) 15 15) (o:=.cells tZ iA) hI (by kernel_rfl) fun b w' hI=>?_
 have hnew:w.heap.size<=b:=by
  rcases hI.new b (by simp [bX,Item.foot]) with h|h
  ·simp [bX] at h
  ·exact h
 obtain ⟨h1,h2⟩:=Inv.publishLast (L:=[]) hI
 exact ⟨_,_,_,rfl,h1,Ew hnew h2,rfl,h2,EL (by simp [lA]; rfl)⟩
theorem Fw (s:ByteArray) {xs:List ByteArray} {S:aF} {v:Value} (h:RdSl S 1 sK v xs):Pure Tryz.prog Ji [v,.string s] S (.bool (xs.any fun x=>decide (x=s))):=by
 intro w hI
 have hlen:=h.le
 simp only [maxLen] at hlen
 refine A6 ?_
 unfold y9
 refine ⟨fun i w'=>∃ k:Nat,k<=xs.length/\i=.int .i64 k/\(xs.drop k).any (fun x=>decide (x=s))=xs.any (fun x=>decide (x=s))/\Inv w [] [] S w',fun i _=>xs.length - (intOf i).toNat,⟨0,Nat.zero_le _,rfl,rfl,hI⟩,?_⟩
 intro t3 _ _ _ _ _ _ _ _ _ _ _ _ _ w'
 rintro ⟨k,hk,rfl,hrel,hI⟩
 refine a9 h cR ?_
 refine bW ?_
 refine bl (fun hki=>?_) (fun hki=>?_)
 ·have hk':k<xs.length:=by omega
  have hstep:=x1 (fun x=>decide (x=s)) xs k hk'
  refine i6 hI h cR bm hk' (fun cs hcs=>hcs) ?_
  refine cN ?_
  refine ba (fun he=>done hI ?_) (fun he=>?_)
  ·rw [<- hrel,hstep,he]; rfl
  ·refine bN (by omega) ?_
   exact ⟨⟨k+1,hk',rfl,by rw [<- hrel,hstep,he]; rfl,hI⟩,by simp [intOf]; omega⟩
 ·have:k=xs.length:=by omega
  subst this
  exact done hI (by rw [<- hrel,List.drop_length]; rfl)
/- the end of a reading function that has published something for itself -/
theorem lD {w w':World} {L:List Item} {S S':aF} {r r':Value} (h:Inv w [] L S' w') (hs:Sle S S') (e:r'=r):Ending.returned r'=.returned r/\Inv w [] [] S w':=⟨by rw [e],h.nil.less hs⟩
theorem uF (s:ByteArray) (hs:s.size<=maxLen) (S:aF):Pure Tryz.prog AO [.string s] S (.bool (lM s)):=by
 intro w hI
 refine qZ ?_
 unfold np
 refine Run.callPure vv vQ hI (rg s hs S) fun w' hI=>?_
 refine Ec (fun h=>done hI ?_) (fun h=>?_)
 ·rw [lM,h]; rfl
 ·refine Run.call0 rb sU hI (pD S) fun v' I' S' w'=>?_
  rintro ⟨rfl,_,hr⟩ hle hI
  refine Run.callPure Is HF hI (Fw s hr) fun w' hI=>?_
  refine vP h (lD hI hle ?_)
  rw [lM,h]; rfl

theorem Es {t:T} {S:aF} {cs:List Value} (h:RdT S cs t):Pure Tryz.prog Jt [.agg cs.toArray] S (.bool (ez t)):=by
 intro w hI
 obtain ⟨kv,rfl,_,_,hs,hks⟩:=RdT.iff.1 h
 obtain ⟨k,n,s,ks⟩:=t
 simp only [T.name,T.kids,T.kind,T.n] at hs hks ⊢
 refine Ba ?_
 unfold zJ;dsimp only
 refine bQ hI fun b1 w' hI=>?_
 refine aI hI 0 rfl bD bo rfl ?_
 refine bR ?_
 refine bl (fun hk=>?_) (fun hk=>?_)
 ·have ho:ez (.mk k n s ks)=(decide (0<=n) && (decide (n<=25) && (decide (s=emptyB) && decide (ks.length=0)))):=by
   rw [ez]; exact if_pos hk
  refine aI hI 0 rfl bF bo rfl ?_
  refine mw ?_
  refine iD (fun h1=>?_) (fun h1=>?_)
  ·refine aI hI 0 rfl bF bo rfl ?_
   refine fX ?_
   refine gx h1 ?_
   refine iD (fun h2=>?_) (fun h2=>?_)
   ·refine aI hI 0 rfl bp bm rfl ?_
    refine cN ?_
    refine gx h2 ?_
    refine iD (fun h3=>?_) (fun h3=>done hI ?_)
    ·refine aI hI 0 rfl aT aR rfl ?_
     refine a9 hks ay ?_
     refine bR ?_
     refine gx h3 (done hI ?_)
     rw [ho,h1,h2,show decide (s=emptyB)=true from h3]
     simp
    ·rw [ho,h1,h2,show decide (s=emptyB)=false from h3]; rfl
   ·refine lW (done hI ?_)
    rw [ho,h1,h2]; rfl
  ·refine lW (lW (done hI ?_))
   rw [ho,h1]; rfl
 refine bR ?_
 refine bl (fun hk2=>?_) (fun hk2=>?_)
 ·have ho:ez (.mk k n s ks)=(decide (-999<=n) && (decide (n<=999) && (decide (s=emptyB) && decide (ks.length=0)))):=by
   rw [ez]; exact (if_neg hk).trans (if_pos hk2)
  refine aI hI 0 rfl bF bo rfl ?_
  refine mw ?_
  refine iD (fun h1=>?_) (fun h1=>?_)
  ·refine aI hI 0 rfl bF bo rfl ?_
   refine fX ?_
   refine gx h1 ?_
   refine iD (fun h2=>?_) (fun h2=>?_)
   ·refine aI hI 0 rfl bp bm rfl ?_
    refine cN ?_
    refine gx h2 ?_
    refine iD (fun h3=>?_) (fun h3=>done hI ?_)
    ·refine aI hI 0 rfl aT aR rfl ?_
     refine a9 hks ay ?_
     refine bR ?_
     refine gx h3 (done hI ?_)
     rw [ho,h1,h2,show decide (s=emptyB)=true from h3]
     simp
    ·rw [ho,h1,h2,show decide (s=emptyB)=false from h3]; rfl
   ·refine lW (done hI ?_)
    rw [ho,h1,h2]; rfl
  ·refine lW (lW (done hI ?_))
   rw [ho,h1]; rfl
 refine bR ?_
 refine bl (fun hk3=>?_) (fun hk3=>done hI ?_)
 ·have ho:ez (.mk k n s ks)=(decide (n=0) && (lM s && decide (ks.length<=4))):=by
   rw [ez]; exact (if_neg hk).trans ((if_neg hk2).trans (if_pos hk3))
  refine aI hI 0 rfl bF bo rfl ?_
  refine bR ?_
  refine iD (fun h1=>?_) (fun h1=>?_)
  ·refine aI hI 0 rfl bp bm rfl ?_
   refine Run.callPure xU zt hI (uF s hs S) fun w' hI=>?_
   refine gx h1 ?_
   refine iD (fun h2=>?_) (fun h2=>done hI ?_)
   ·refine aI hI 0 rfl aT aR rfl ?_
    refine a9 hks ay ?_
    refine fX ?_
    refine gx h2 (done hI ?_)
    rw [ho,h1,h2]
    simp
    omega
   ·rw [ho,h1,h2]; rfl
  ·refine lW (done hI ?_)
   rw [ho,h1]; rfl
 ·rw [ez]
  exact congrArg Value.bool ((if_neg hk).trans ((if_neg hk2).trans (if_neg hk3))).symm

theorem AU:∀ (t:T) (S:aF) (cs:List Value) (d:Int),RdT S cs t->-1<=d->d<=1000->Pure Tryz.prog Fd [.agg cs.toArray,.int .i64 d] S (.bool (fm t d)):=by
 refine T.ind fun k n s ks ih S cs d h h0 h1=>?_
 intro w hI
 have hcs:=h
 obtain ⟨kv,rfl,_,_,hs,hks⟩:=RdT.iff.1 h
 simp only [T.name,T.kids,T.kind,T.n] at hs hks ⊢
 have hlen:=hks.le
 simp only [maxLen] at hlen
 refine wF ?_
 unfold r5
 refine bQ hI fun b1 w' hI=>?_
 refine ⟨fun t w'=>t=.bool (decide (d<1) || !ez (.mk k n s ks))/\Inv w [] [.blk b1 (.cells #[.int .i64 k,.int .i64 n,.string s,kv] ab)] S w',?_,?_⟩
 ·refine bW ?_
  refine Ec (fun h=>⟨by rw [h]; rfl,hI⟩) (fun h=>?_)
  refine bb hI 0 ao rfl rfl ?_
  refine Run.callPure Hn Iu hI (Es hcs) fun w' hI=>?_
  refine dh ?_
  exact vP h ⟨by rw [h]; rfl,hI⟩
 intro t _ _ _ _ _ _ w'
 rintro ⟨rfl,hI⟩
 refine ba (fun hb=>done hI ?_) (fun hb=>?_)
 ·rw [fm]
  by_cases hd:d<1
  ·rw [if_pos hd]
  ·rw [if_neg hd]
   simp [hd] at hb
   rw [hb]; rfl
 have hd:¬ d<1:=fun h=>by simp [h] at hb
 have ho:ez (.mk k n s ks)=true:=by simp [hd] at hb; exact hb
 refine ⟨fun i w'=>∃ j:Nat,j<=ks.length/\i=.int .i64 j/\eW (ks.drop j) (d - 1)=eW ks (d - 1)/\Inv w [] [.blk b1 (.cells #[.int .i64 k,.int .i64 n,.string s,kv] ab)] S w',
  fun i _=>ks.length - (intOf i).toNat,⟨0,Nat.zero_le _,rfl,rfl,hI⟩,?_⟩
 intro t5 _ _ _ _ _ _ _ _ _ _ _ _ _ _ _ _ _ w'
 rintro ⟨j,hj,rfl,hrel,hI⟩
 refine aI hI 0 rfl aT aR rfl ?_
 refine a9 hks ay ?_
 refine bW ?_
 refine bl (fun hji=>?_) (fun hji=>?_)
 ·have hj':j<ks.length:=by omega
  have hstep:eW (ks.drop j) (d - 1)=(fm ks[j] (d - 1) && eW (ks.drop (j+1)) (d - 1)):=by
   rw [List.drop_eq_getElem_cons hj',eW]
  refine aI hI 0 rfl aT aR rfl ?_
  refine dZ hI hks ay ao hj' (fun _ _=>RdT.length) fun cs' hcs'=>?_
  refine pO (by omega) ?_
  refine Run.callPure sW sw hI (ih _ (List.getElem_mem hj') S cs' (d - 1) hcs' (by omega) (by omega)) fun w' hI=>?_
  refine dh ?_
  refine ba (fun hne=>done hI ?_) (fun he=>?_)
  ·simp at hne
   rw [fm,if_neg hd,ho,<- hrel,hstep,hne]; rfl
  ·simp at he
   refine bN (by omega) ?_
   exact ⟨⟨j+1,hj',rfl,by rw [<- hrel,hstep,he]; rfl,hI⟩,by simp [intOf]; omega⟩
 ·have:j=ks.length:=by omega
  subst this
  refine done hI ?_
  rw [fm,if_neg hd,ho,<- hrel,List.drop_length,eW]; rfl

theorem jF:∀ (ts:List T) (j:Nat) (h:j<ts.length),dX (ts.drop j)=eR ts[j]+dX (ts.drop (j+1)):=by
 intro ts j h
 rw [List.drop_eq_getElem_cons h,dX]
theorem Bt:∀ (t:T) (S:aF) (cs:List Value) (most:Int),RdT S cs t->0<=most->most<=1000->eR t<=4611686018427387904->Pure Tryz.prog Fg [.agg cs.toArray,.int .i64 most] S (.int .i64 (iJ t most)):=by
 refine T.ind fun k n s ks ih S cs most h h0 h1 hc=>?_
 intro w hI
 obtain ⟨kv,rfl,_,_,hs,hks⟩:=RdT.iff.1 h
 simp only [T.name,T.kids,T.kind,T.n] at hs hks ⊢
 have hlen:=hks.le
 simp only [maxLen] at hlen
 rw [show eR (T.mk k n s ks)=1+dX ks from rfl] at hc
 refine wG ?_
 unfold tu
 refine bQ hI fun b1 w' hI=>?_
 refine ⟨fun i m w'=>∃ (j:Nat) (c:Int),j<=ks.length/\i=.int .i64 j/\m=.int .i64 c/\1<=c/\c+dX (ks.drop j)<=1+dX ks/\gg (ks.drop j) c most=gg ks 1 most/\Inv w [] [.blk b1 (.cells #[.int .i64 k,.int .i64 n,.string s,kv] ab)] S w',
  fun i _ _=>ks.length - (intOf i).toNat,⟨0,1,Nat.zero_le _,rfl,rfl,by omega,by rw [List.drop_zero]; omega,rfl,hI⟩,?_⟩
 intro t6 _ _ t5 _ _ _ _ _ _ _ _ _ _ _ _ _ _ _ _ _ _ _ _ _ w'
 rintro ⟨j,c,hj,rfl,rfl,hc1,hc2,hrel,hI⟩
 refine ⟨fun t w'=>t=.bool (decide (j<ks.length) && decide (c<=most))/\Inv w [] [.blk b1 (.cells #[.int .i64 k,.int .i64 n,.string s,kv] ab)] S w',?_,?_⟩
 ·refine aI hI 0 rfl aT aR rfl ?_
  refine a9 hks ay ?_
  refine bW ?_
  refine iD (fun h=>?_) (fun h=>⟨?_,hI⟩)
  ·refine fX ?_
   refine gx h ⟨?_,hI⟩
   rw [decide_eq_true (show j<ks.length from by have:=of_decide_eq_true h; omega)]; rfl
  ·rw [decide_eq_false (show ¬ j<ks.length from by have:=of_decide_eq_false h; omega)]; rfl
 intro t _ _ _ _ _ _ _ _ _ w'
 rintro ⟨rfl,hI⟩
 refine ba (fun hb=>?_) (fun hb=>done hI ?_)
 ·simp at hb
  obtain ⟨hj',hcm⟩:=hb
  have hsp:=jF ks j hj'
  have hstep:gg (ks.drop j) c most=gg (ks.drop (j+1)) (c+iJ ks[j] (most - c)) most:=by
   rw [List.drop_eq_getElem_cons hj',gg,if_pos hcm]
  have hct:=ut ks[j] (most - c) (by omega)
  have hp:=ra ks[j]
  have hlp:=fA (ks.drop (j+1))
  have hcle:1<=iJ ks[j] (most - c)/\iJ ks[j] (most - c)<=eR ks[j]:=by
   by_cases hq:eR ks[j]<=most - c
   ·rw [hct.1 hq]; omega
   ·have:=hct.2 (by omega); omega
  refine aI hI 0 rfl aT aR rfl ?_
  refine dZ hI hks ay ao hj' (fun _ _=>RdT.length) fun cs' hcs'=>?_
  refine pO (by omega) ?_
  refine Run.callPure sX sI hI (ih _ (List.getElem_mem hj') S cs' (most - c) hcs' (by omega) (by omega) (by omega)) fun w' hI=>?_
  refine bN (by omega) ?_
  refine bN (by omega) ?_
  exact ⟨⟨j+1,_,hj',rfl,rfl,by omega,by omega,by rw [<- hrel,hstep],hI⟩,by simp [intOf]; omega⟩
 ·show Value.int .i64 c=Value.int .i64 (gg ks 1 most)
  rw [<- hrel]
  by_cases hj':j<ks.length
  ·simp [hj'] at hb
   rw [List.drop_eq_getElem_cons hj',gg,if_neg (by omega)]
  ·rw [List.drop_eq_nil_of_le (by omega),gg]

mutual
theorem C0:∀ t:T,eR t<=1+(wT t:Int)
 | .mk k n s ks=>by
  rw [show eR (T.mk k n s ks)=1+dX ks from rfl,wT]
  have:=C6 ks
  omega
theorem C6:∀ ts:List T,dX ts<=ts.length+(wL ts:Int)
 | []=>by simp [dX,wL]
 | t::ts=>by
  rw [show dX (t::ts)=eR t+dX ts from rfl,wL,List.length_cons]
  have:=C0 t; have:=C6 ts
  omega
end

theorem lx {t:T} {S:aF} {cs:List Value} (h:RdT S cs t) (hc:eR t<=4611686018427387904):Pure Tryz.prog Bg [.agg cs.toArray] S (.bool (ft t)):=by
 intro w hI
 have hl:=h.length
 refine sj ?_
 unfold n8
 refine bQ hI fun b1 w' hI=>?_
 refine bb hI 0 ao rfl (by simpa [Value.cells] using hl) ?_
 refine Run.callPure sW sw hI (AU t S cs 30 h (by omega) (by omega)) fun w' hI=>?_
 refine iD (fun h1=>?_) (fun h1=>done hI ?_)
 ·refine bb hI 0 ao rfl (by simpa [Value.cells] using hl) ?_
  refine Run.callPure sX sI hI (Bt t S cs 120 h (by omega) (by omega) hc) fun w' hI=>?_
  refine fX ?_
  refine gx h1 (done hI ?_)
  rw [ft,h1,J5]; rfl
 ·rw [ft,h1]; rfl

end Go.Proofs.YtemmhhdnlbmicaaGreat

/- slices.IndexFunc and slices.ContainsFunc, whatever function is handed to them. -/
namespace Go.Proofs.YtemmhhdnlbmicaaGreat
open Go Go.RowKit
attribute [local irreducible] Run CondV ah be

def cW {α σ:Type} (step:σ->α->Bool × σ):σ->List α->Nat->Int × σ
 | st,[],_=>(-1,st)
 | st,x::xs,k=>if (step st x).1 then ((k:Int),(step st x).2) else cW step (step st x).2 xs (k+1)
def mT {α σ:Type} (step:σ->α->Bool × σ):σ->List α->Bool × σ
 | st,[]=>(false,st)
 | st,x::xs=>if (step st x).1 then (true,(step st x).2) else mT step (step st x).2 xs
theorem ij {α σ:Type} (step:σ->α->Bool × σ):∀ (xs:List α) (st:σ) (k:Nat),decide (0<=(cW step st xs k).1)=(mT step st xs).1/\(cW step st xs k).2=(mT step st xs).2
 | [],st,k=>by simp [cW,mT]
 | x::xs,st,k=>by
  by_cases h:(step st x).1=true
  ·simp [cW,mT,h]
  ·simpa [cW,mT,h] using ij step xs (step st x).2 (k+1)
theorem gq {α:Type} (p:α->Bool):∀ xs:List α,mT (σ:=Unit) (fun _ x=>(p x,())) () xs=(xs.any p,())
 | []=>rfl
 | x::xs=>by
  simp only [mT,List.any_cons]
  cases h:p x with
  | true=>rfl
  | false=>rw [gq p xs]; rfl
abbrev fv (f:FuncId) (cap:List Value):Value:=.func (.func f) #[] cap.toArray
section
variable {P:Program} {w w0:World} {X:List Nat} {A I:List Item} {S:aF} {K:Value->World->Prop}
theorem BS {P:Program} {f:FuncId} {fn:Func} {cap args:List Value} {w:World} (hf:P.funcs[f]?=some fn) (hn:(fn.name == "runtime.NumGoroutine" || fn.body.isNone)=false) :
  (aJ (fv f cap) args).run P w=.ok (.enter f (args++cap).toArray) w:=by
 simp only [Bool.or_eq_false_iff] at hn
 have h1:¬ fn.name = "runtime.NumGoroutine" := by simpa using hn.1
 have h2:¬ fn.body=none:=fun e=>by rw [e] at hn; simp at hn
 simp [aJ,Deferred.ofValue,invoke,callFunc,hf,h1,h2]
theorem Run.callV {f:FuncId} {fn:Func} {cap args:List Value} {Post:Value->List Item->aF->Prop}
  (hf:P.funcs[f]?=some fn) (hn:(fn.name == "runtime.NumGoroutine" || fn.body.isNone)=false) (h:Inv w0 X (A++I) S w) (hc:Tri P f (args++cap) I S Post)
  (hk:∀ v I' S' w',Post v I' S'->Sle S S'->Inv w0 X (A++I') S' w'->K v w'):Run P (aJ (fv f cap) args) w K:=by
 unfold Run
 rw [BS hf hn]
 refine (hc w (h.sub (List.sublist_append_right A I)).begin).mono ?_
 rintro e w' ⟨v,I',S',rfl,hI,hE,hP⟩
 exact hk v I' S' w' hP hE.1 (Inv.step h hI hE.2)
end
/- what a function handed over does to the state that it keeps -/
structure Cb (P:Program) (f:FuncId) (fn:Func) {α σ:Type} (cap:List Value) (S:aF) (It:σ->List Item) (ok:σ->Prop) (step:σ->α->Bool × σ) (R:Value->α->Prop) (xs:List α):Prop where
 hf:P.funcs[f]?=some fn
 hn:(fn.name == "runtime.NumGoroutine" || fn.body.isNone)=false
 keep:∀ st x,x∈xs->ok st->(step st x).1=false->ok (step st x).2
 call:∀ st x v,x∈xs->ok st->R v x->Tri P f (v::cap) (It st) S fun r I' S'=>r=.bool (step st x).1/\I'=It (step st x).2/\S'=S
/- a function that only reads, handed over -/
theorem Cb.pure {P:Program} {f:FuncId} {fn:Func} {α:Type} {cap:List Value} {S:aF} {p:α->Bool} {R:Value->α->Prop} {xs:List α} (L:List Item) (hf:P.funcs[f]?=some fn) (hn:(fn.name == "runtime.NumGoroutine" || fn.body.isNone)=false)
  (h:∀ x v,x∈xs->R v x->Tri P f (v::cap) L S fun r I' S'=>r=.bool (p x)/\I'=L/\S'=S):Cb P f fn cap S (fun _:Unit=>L) (fun _=>True) (fun _ x=>(p x,())) R xs:=
 ⟨hf,hn,fun _ _ _ _ _=>trivial,fun _ x v hx _ hR=>h x v hx hR⟩

theorem rr {σ:Type} {f:FuncId} {fn:Func} {cap:List Value} {S:aF} {It:σ->List Item} {ok:σ->Prop} {step:σ->T->Bool × σ} {xs:List T} {v:Value}
  (hcb:Cb Tryz.prog f fn cap S It ok step (fun v x=>∃ cs,v=.agg cs.toArray/\RdT S cs x) xs) (h:RdSl S 4 (RdT S) v xs) {st:σ} (hok:ok st) :
  Tri Tryz.prog qv [v,fv f cap] (It st) S fun r I' S'=>r=.int .i64 (cW step st xs 0).1/\I'=It (cW step st xs 0).2/\S'=S:=by
 intro w hI
 have hlen:=h.le
 simp only [maxLen] at hlen
 refine mn ?_
 unfold iS
 refine a9 h ay ?_
 refine ⟨fun i w'=>∃ (k:Nat) (st':σ),k<=xs.length/\i=.int .i64 k/\ok st'/\cW step st' (xs.drop k) k=cW step st xs 0/\Inv w (bX (It st)) (It st') S w',fun i _=>xs.length - (intOf i).toNat,
  ⟨0,st,Nat.zero_le _,rfl,hok,rfl,hI⟩,?_⟩
 intro t8 _ _ _ _ _ _ _ _ _ _ _ _ w'
 rintro ⟨k,st',hk,rfl,hok',hrel,hI⟩
 refine bW ?_
 refine bl (fun hki=>?_) (fun hki=>?_)
 ·have hk':k<xs.length:=by omega
  have hm:=List.getElem_mem hk'
  have hstep:cW step st' (xs.drop k) k=if (step st' xs[k]).1 then ((k:Int),(step st' xs[k]).2) else cW step (step st' xs[k]).2 (xs.drop (k+1)) (k+1):=by
   rw [List.drop_eq_getElem_cons hk',cW]
  refine dZ hI h ay ao hk' (fun _ _=>RdT.length) fun cs hcs=>?_
  refine Run.callV (A:=[]) (args:=[.agg cs.toArray]) hcb.hf hcb.hn (by simpa using hI) (hcb.call st' _ _ hm hok' ⟨cs,rfl,hcs⟩) fun v' I' S' w'=>?_
  rintro ⟨rfl,rfl,rfl⟩ _ hI
  refine ba (fun hb=>?_) (fun hb=>?_)
  ·rw [if_pos hb] at hstep
   refine ⟨_,_,_,rfl,by simpa using hI,Ext.refl _ _ _,?_,?_,rfl⟩
   ·rw [<- hrel,hstep]
   ·rw [<- hrel,hstep]
  ·refine bN (by omega) ?_
   rw [hb] at hstep
   refine ⟨⟨k+1,_,hk',rfl,hcb.keep st' _ hm hok' hb,?_,by simpa using hI⟩,by simp [intOf]; omega⟩
   rw [<- hrel,hstep]
   rfl
 ·have:k=xs.length:=by omega
  subst this
  rw [List.drop_length,cW] at hrel
  exact ⟨_,_,_,rfl,hI,Ext.refl _ _ _,by rw [<- hrel],by rw [<- hrel],rfl⟩
theorem ff {σ:Type} {f:FuncId} {fn:Func} {cap:List Value} {S:aF} {It:σ->List Item} {ok:σ->Prop} {step:σ->T->Bool × σ} {xs:List T} {v:Value}
  (hcb:Cb Tryz.prog f fn cap S It ok step (fun v x=>∃ cs,v=.agg cs.toArray/\RdT S cs x) xs) (h:RdSl S 4 (RdT S) v xs) {st:σ} (hok:ok st) :
  Tri Tryz.prog mP [v,fv f cap] (It st) S fun r I' S'=>r=.bool (mT step st xs).1/\I'=It (mT step st xs).2/\S'=S:=by
 intro w hI
 refine jT ?_
 unfold gQ
 refine Run.call (A:=[]) pd pm (by simpa using hI) (rr hcb h hok) fun v' I' S' w'=>?_
 rintro ⟨rfl,rfl,rfl⟩ _ hI
 refine mw ?_
 have he:=ij step xs st 0
 exact ⟨_,_,_,rfl,by simpa using hI,Ext.refl _ _ _,by rw [he.1],by rw [he.2],rfl⟩
theorem o9 {σ:Type} {f:FuncId} {fn:Func} {cap:List Value} {S:aF} {It:σ->List Item} {ok:σ->Prop} {step:σ->C->Bool × σ} {xs:List C} {v:Value}
  (hcb:Cb Tryz.prog f fn cap S It ok step (fun v x=>∃ cs,v=.agg cs.toArray/\RdC S cs x) xs) (h:RdSl S 5 (RdC S) v xs) {st:σ} (hok:ok st) :
  Tri Tryz.prog nR [v,fv f cap] (It st) S fun r I' S'=>r=.int .i64 (cW step st xs 0).1/\I'=It (cW step st xs 0).2/\S'=S:=by
 intro w hI
 have hlen:=h.le
 simp only [maxLen] at hlen
 refine kU ?_
 unfold g7
 refine a9 h dt ?_
 refine ⟨fun i w'=>∃ (k:Nat) (st':σ),k<=xs.length/\i=.int .i64 k/\ok st'/\cW step st' (xs.drop k) k=cW step st xs 0/\Inv w (bX (It st)) (It st') S w',fun i _=>xs.length - (intOf i).toNat,
  ⟨0,st,Nat.zero_le _,rfl,hok,rfl,hI⟩,?_⟩
 intro t8 _ _ _ _ _ _ _ _ _ _ _ _ w'
 rintro ⟨k,st',hk,rfl,hok',hrel,hI⟩
 refine bW ?_
 refine bl (fun hki=>?_) (fun hki=>?_)
 ·have hk':k<xs.length:=by omega
  have hm:=List.getElem_mem hk'
  have hstep:cW step st' (xs.drop k) k=if (step st' xs[k]).1 then ((k:Int),(step st' xs[k]).2) else cW step (step st' xs[k]).2 (xs.drop (k+1)) (k+1):=by
   rw [List.drop_eq_getElem_cons hk',cW]
  refine dZ hI h dt bM hk' (fun _ _=>RdC.length) fun cs hcs=>?_
  refine Run.callV (A:=[]) (args:=[.agg cs.toArray]) hcb.hf hcb.hn (by simpa using hI) (hcb.call st' _ _ hm hok' ⟨cs,rfl,hcs⟩) fun v' I' S' w'=>?_
  rintro ⟨rfl,rfl,rfl⟩ _ hI
  refine ba (fun hb=>?_) (fun hb=>?_)
  ·rw [if_pos hb] at hstep
   refine ⟨_,_,_,rfl,by simpa using hI,Ext.refl _ _ _,?_,?_,rfl⟩
   ·rw [<- hrel,hstep]
   ·rw [<- hrel,hstep]
  ·refine bN (by omega) ?_
   rw [hb] at hstep
   refine ⟨⟨k+1,_,hk',rfl,hcb.keep st' _ hm hok' hb,?_,by simpa using hI⟩,by simp [intOf]; omega⟩
   rw [<- hrel,hstep]
   rfl
 ·have:k=xs.length:=by omega
  subst this
  rw [List.drop_length,cW] at hrel
  exact ⟨_,_,_,rfl,hI,Ext.refl _ _ _,by rw [<- hrel],by rw [<- hrel],rfl⟩
theorem gV {σ:Type} {f:FuncId} {fn:Func} {cap:List Value} {S:aF} {It:σ->List Item} {ok:σ->Prop} {step:σ->C->Bool × σ} {xs:List C} {v:Value}
  (hcb:Cb Tryz.prog f fn cap S It ok step (fun v x=>∃ cs,v=.agg cs.toArray/\RdC S cs x) xs) (h:RdSl S 5 (RdC S) v xs) {st:σ} (hok:ok st) :
  Tri Tryz.prog k0 [v,fv f cap] (It st) S fun r I' S'=>r=.bool (mT step st xs).1/\I'=It (mT step st xs).2/\S'=S:=by
 intro w hI
 refine jc ?_
 unfold gF
 refine Run.call (A:=[]) mV mS (by simpa using hI) (o9 hcb h hok) fun v' I' S' w'=>?_
 rintro ⟨rfl,rfl,rfl⟩ _ hI
 refine mw ?_
 have he:=ij step xs st 0
 exact ⟨_,_,_,rfl,by simpa using hI,Ext.refl _ _ _,by rw [he.1],by rw [he.2],rfl⟩

end Go.Proofs.YtemmhhdnlbmicaaGreat

/- The program's TermValid and what it calls. -/
namespace Go.Proofs.YtemmhhdnlbmicaaGreat
open Go Go.RowKit
attribute [local irreducible] Run CondV ah be

theorem ml (n low high:Int) (S:aF):Pure Tryz.prog Ht [.int .i64 n,.int .i64 low,.int .i64 high] S (.bool (decide (low<=n) && decide (n<=high))):=by
 intro w hI
 refine zQ ?_
 unfold vN
 refine fX ?_
 refine iD (fun h=>?_) (fun h=>done hI (by rw [h]; rfl))
 refine fX ?_
 exact gx h (done hI (by rw [h]; rfl))
theorem mv (s:ByteArray) (hs:s.size<=maxLen) (S:aF):Pure Tryz.prog AR [.string s] S (.bool (kG s)):=by
 intro w hI
 simp only [maxLen] at hs
 refine rC ?_
 unfold nX
 refine jz bj ?_
 refine ⟨fun i w'=>∃ k:Nat,k<=s.size/\i=.int .i64 k/\(s.data.toList.drop k).all oU=nF s/\Inv w [] [] S w',fun i _=>s.size - (intOf i).toNat,⟨0,Nat.zero_le _,rfl,rfl,hI⟩,?_⟩
 intro t6 _ _ _ _ _ _ _ _ _ _ _ _ _ _ _ w'
 rintro ⟨k,hk,rfl,hrel,hI⟩
 refine bW ?_
 refine bl (fun hki=>?_) (fun hki=>?_)
 ·have hk':k<s.size:=by omega
  have hstep:=ld oU s.data.toList k (by rw [li]; exact hk')
  rw [FT s k hk'] at hstep
  refine ⟨fun t w'=>t=.bool (!oU s[k])/\Inv w [] [] S w',?_,?_⟩
  ·refine jy bj hk' ?_
   refine bW ?_
   refine Ec (fun h=>⟨?_,hI⟩) (fun h=>?_)
   ·have h:=of_decide_eq_true h
    rw [oU,decide_eq_false (show ¬ 97<=s[k].toNat by omega)]; rfl
   ·refine jy bj hk' ?_
    refine eh ?_
    refine vP h ⟨?_,hI⟩
    have h:=of_decide_eq_false h
    rw [oU,decide_eq_true (show 97<=s[k].toNat by omega),Bool.true_and]
    by_cases h2:s[k].toNat<=122
    ·rw [decide_eq_true h2,decide_eq_false (by omega)]; rfl
    ·rw [decide_eq_false h2,decide_eq_true (by omega)]; rfl
  intro t _ _ _ _ _ _ _ _ _ w'
  rintro ⟨rfl,hI⟩
  refine ba (fun h=>done hI ?_) (fun h=>?_)
  ·simp at h
   rw [kG,<- hrel,hstep,h]; rfl
  ·simp at h
   refine bN (by omega) ?_
   refine ⟨⟨k+1,hk',rfl,by rw [<- hrel,hstep,h]; rfl,hI⟩,by simp [intOf]; omega⟩
 ·have:k=s.size:=by omega
  subst this
  have hl:nF s=true:=by rw [<- hrel,<- li,List.drop_length]; rfl
  refine jz bj ?_
  refine Run.callPure oE ny hI (ml _ _ _ S) fun w' hI=>done hI ?_
  rw [kG,hl,Bool.true_and]
  congr 1
  rw [Bool.eq_iff_iff]
  simp
  omega
theorem AS (S:aF):Tri Tryz.prog Ev [] [] S (Cg S):=by
 intro w hI
 refine wV ?_
 unfold ru
 refine qd (v:=fun b=>.slice (some ⟨b,0,none⟩) 15 15) (o:=.cells tZ iA) hI (by kernel_rfl) fun b w' hI=>?_
 have hnew:w.heap.size<=b:=by
  rcases hI.new b (by simp [bX,Item.foot]) with h|h
  ·simp [bX] at h
  ·exact h
 obtain ⟨h1,h2⟩:=Inv.publishLast (L:=[]) hI
 exact ⟨_,_,_,rfl,h1,Ew hnew h2,rfl,h2,EL (by simp [lA]; rfl)⟩
theorem qN (s:ByteArray) {xs:List ByteArray} {S:aF} {v:Value} (h:RdSl S 1 sK v xs) :
  Pure Tryz.prog tH [v,.string s] S (.int .i64 (cW (σ:=Unit) (fun _ x=>(decide (x=s),())) () xs 0).1):=by
 intro w hI
 have hlen:=h.le
 simp only [maxLen] at hlen
 refine n4 ?_
 unfold kE
 refine a9 h cR ?_
 refine ⟨fun i w'=>∃ k:Nat,k<=xs.length/\i=.int .i64 k/\cW (σ:=Unit) (fun _ x=>(decide (x=s),())) () (xs.drop k) k=cW (σ:=Unit) (fun _ x=>(decide (x=s),())) () xs 0/\Inv w [] [] S w',
  fun i _=>xs.length - (intOf i).toNat,⟨0,Nat.zero_le _,rfl,rfl,hI⟩,?_⟩
 intro t8 _ _ _ _ _ _ _ _ _ _ _ _ w'
 rintro ⟨k,hk,rfl,hrel,hI⟩
 refine bW ?_
 refine bl (fun hki=>?_) (fun hki=>?_)
 ·have hk':k<xs.length:=by omega
  rw [List.drop_eq_getElem_cons hk',cW] at hrel
  refine i6 hI h cR bm hk' (fun cs hcs=>hcs) ?_
  refine cN ?_
  refine bl (fun he=>done hI ?_) (fun he=>?_)
  ·rw [<- hrel,if_pos (by simpa using he.symm)]
  ·refine bN (by omega) ?_
   rw [if_neg (by simpa using fun e=>he e.symm)] at hrel
   exact ⟨⟨k+1,hk',rfl,hrel,hI⟩,by simp [intOf]; omega⟩
 ·have:k=xs.length:=by omega
  subst this
  rw [List.drop_length,cW] at hrel
  exact done hI (by rw [<- hrel])
theorem mX (s:ByteArray) {xs:List ByteArray} {S:aF} {v:Value} (h:RdSl S 1 sK v xs) :
  Pure Tryz.prog pi [v,.string s] S (.bool (xs.any fun x=>decide (x=s))):=by
 intro w hI
 refine lN ?_
 unfold iI
 refine Run.callPure rP q9 hI (qN s h) fun w' hI=>?_
 refine mw (done hI ?_)
 rw [(ij _ xs () 0).1,gq]
theorem tJ (s:ByteArray) (hs:s.size<=maxLen) (S:aF):Pure Tryz.prog Bo [.string s] S (.bool (lM s)):=by
 intro w hI
 refine rq ?_
 unfold nr
 refine Run.callPure n7 oY hI (mv s hs S) fun w' hI=>?_
 refine Ec (fun h=>done hI ?_) (fun h=>?_)
 ·rw [lM,h]; rfl
 ·refine Run.call0 Do Dx hI (AS S) fun v' I' S' w'=>?_
  rintro ⟨rfl,_,hr⟩ hle hI
  refine Run.callPure oO oJ hI (mX s hr) fun w' hI=>?_
  refine vP h (lD hI hle ?_)
  rw [lM,h]; rfl

abbrev iM (b:Nat) (c:Int):Item:=.blk b (.cells #[.int .i64 c] fu)
abbrev sZ (bc:Nat) (S:aF) (r:Bool × Int):Value->List Item->aF->Prop:=fun v I' S'=>v=.bool r.1/\I'=[iM bc r.2]/\S'=S
theorem Ge:∀ (t:T) (deep c:Int),c<=120->(fD t deep c).1=true->c<(fD t deep c).2/\(fD t deep c).2<=120:=by
 intro t deep c hc h
 have:=zx t deep c
 rw [this.2 h]
 have h1:=this.1
 rw [h] at h1
 have h2:=h1.symm
 simp at h2
 have:=ra t
 omega
theorem Cu (deep:Int):∀ (ks:List T) (c:Int),mT (fun c t=>(!(fD t deep c).1,(fD t deep c).2)) c ks=(!(jH ks deep c).1,(jH ks deep c).2)
 | [],c=>by simp [mT,jH]
 | t::ts,c=>by
  by_cases h:(fD t deep c).1=true
  ·simp [mT,jH,h,Cu deep ts]
  ·simp [mT,jH,h]

theorem HT:∀ (t:T) (S:aF) (cs:List Value) (deep c:Int) (bc:Nat),RdT S cs t->0<=deep->deep<=31->0<=c->c<=120->
  Tri Tryz.prog K8 [.agg cs.toArray,.int .i64 deep,.pointer (some ⟨bc,0,none⟩)] [iM bc c] S (sZ bc S (fD t deep c)):=by
 refine T.ind fun k n s ks ih S cs deep c bc h hd0 hd1 hc0 hc1=>?_
 intro w hI
 obtain ⟨kv,rfl,_,_,hs,hks⟩:=RdT.iff.1 h
 simp only [T.name,T.kids,T.kind,T.n] at hs hks ⊢
 have hend:∀ {L:List Item} {w':World} {v:Value} (r:Bool × Int),Inv w (bX [iM bc c]) (iM bc r.2::L) S w'->v=.bool r.1->r=fD (.mk k n s ks) deep c->
   ∃ v' I' S',Ending.returned v=.returned v'/\Inv w (bX [iM bc c]) I' S' w'/\Ext w.heap.size (bX [iM bc c]) S S'/\sZ bc S (fD (.mk k n s ks) deep c) v' I' S':=by
  intro L w' v r h1 h2 h3
  subst h3
  exact ⟨_,_,_,rfl,h1.pick [true],Ext.refl _ _ _,h2,rfl,rfl⟩
 refine C2 ?_
 unfold Cw;dsimp only
 refine bQ hI fun b3 w' hI=>?_
 refine bQ hI fun b4 w' hI=>?_
 refine bQ hI fun b5 w' hI=>?_
 refine bG hI 3 DS rfl rfl ?_
 refine dS ?_
 refine bG hI 0 bo rfl rfl ?_
 refine bN (by omega) ?_
 refine dS ?_
 refine fg hI 0 (n:=1) rfl (by rw [bo]; rfl) rfl (Nat.le_of_ble_eq_true rfl) (by simp [Value.cells]; rfl) fun w' hI=>?_
 refine ⟨fun t w'=>t=.bool (decide (120<c+1 ∨ 30<deep))/\Inv w (bX [iM bc c]) [iM bc (c+1),.blk b3 (.cells #[.int .i64 k,.int .i64 n,.string s,kv] ab),.blk b4 (.cells #[.int .i64 deep] fu),.blk b5 (.cells #[.pointer (some ⟨bc,0,none⟩)] l5)] S w',?_,?_⟩
 ·refine bG hI 3 DS rfl rfl ?_
  refine dS ?_
  refine bG hI 0 bo rfl rfl ?_
  refine eh ?_
  refine Ec (fun h=>⟨?_,hI⟩) (fun h=>?_)
  ·have h:=of_decide_eq_true h
   rw [decide_eq_true (show 120<c+1 ∨ 30<deep from .inl h)]
  ·refine bG hI 2 bo rfl rfl ?_
   refine eh ?_
   refine vP h ⟨?_,hI⟩
   have h:=of_decide_eq_false h
   congr 1
   rw [Bool.eq_iff_iff]
   simp
   omega
 intro t _ _ _ _ _ _ _ w'
 rintro ⟨rfl,hI⟩
 refine bl (fun hb=>?_) (fun hb=>?_)
 ·exact hend (false,c+1) hI rfl (by rw [fD,if_pos hb])
 have hsc:∀ r,(if k=1 ∨ k=2 then (ez (.mk k n s ks),c+1) else if k=3 then (if ez (.mk k n s ks) then jH ks (deep+1) (c+1) else (false,c+1)) else (false,c+1))=r->r=fD (.mk k n s ks) deep c:=by
  intro r hr
  rw [fD,if_neg hb,hr]
 refine aI hI 1 rfl bD bo rfl ?_
 refine bR ?_
 refine bl (fun hk=>?_) (fun hk=>?_)
 ·have ho:ez (.mk k n s ks)=(decide (0<=n) && (decide (n<=25) && (decide (s=emptyB) && decide (ks.length=0)))):=by
   rw [ez]; exact if_pos hk
  have hfin:∀ {w':World} {b:Bool},Inv w (bX [iM bc c]) [iM bc (c+1),.blk b3 (.cells #[.int .i64 k,.int .i64 n,.string s,kv] ab),.blk b4 (.cells #[.int .i64 deep] fu),.blk b5 (.cells #[.pointer (some ⟨bc,0,none⟩)] l5)] S w'->
    b=ez (.mk k n s ks)->∃ v' I' S',Ending.returned (.bool b)=.returned v'/\Inv w (bX [iM bc c]) I' S' w'/\Ext w.heap.size (bX [iM bc c]) S S'/\sZ bc S (fD (.mk k n s ks) deep c) v' I' S':=
   fun hI hb=>hend (_,c+1) hI (by rw [hb]) (hsc _ (if_pos (.inl hk)))
  refine aI hI 1 rfl bF bo rfl ?_
  refine Run.callPure oE ny hI (ml _ _ _ S) fun w' hI=>?_
  refine iD (fun h2=>?_) (fun h2=>?_)
  ·have h2':=h2
   rw [Bool.and_eq_true] at h2'
   refine aI hI 1 rfl bp bm rfl ?_
   refine cN ?_
   refine gx h2 ?_
   refine iD (fun h3=>?_) (fun h3=>hfin hI ?_)
   ·refine aI hI 1 rfl aT aR rfl ?_
    refine a9 hks ay ?_
    refine bR ?_
    refine gx h3 (hfin hI ?_)
    rw [ho,h2'.1,h2'.2,show decide (s=emptyB)=true from h3]
    simp
   ·rw [ho,h2'.1,h2'.2,show decide (s=emptyB)=false from h3]; rfl
  ·refine lW (hfin hI ?_)
   rw [ho,<- Bool.and_assoc,h2]; rfl
 refine bR ?_
 refine bl (fun hk2=>?_) (fun hk2=>?_)
 ·have ho:ez (.mk k n s ks)=(decide (-999<=n) && (decide (n<=999) && (decide (s=emptyB) && decide (ks.length=0)))):=by
   rw [ez]; exact (if_neg hk).trans (if_pos hk2)
  have hfin:∀ {w':World} {b:Bool},Inv w (bX [iM bc c]) [iM bc (c+1),.blk b3 (.cells #[.int .i64 k,.int .i64 n,.string s,kv] ab),.blk b4 (.cells #[.int .i64 deep] fu),.blk b5 (.cells #[.pointer (some ⟨bc,0,none⟩)] l5)] S w'->
    b=ez (.mk k n s ks)->∃ v' I' S',Ending.returned (.bool b)=.returned v'/\Inv w (bX [iM bc c]) I' S' w'/\Ext w.heap.size (bX [iM bc c]) S S'/\sZ bc S (fD (.mk k n s ks) deep c) v' I' S':=
   fun hI hb=>hend (_,c+1) hI (by rw [hb]) (hsc _ (if_pos (.inr hk2)))
  refine aI hI 1 rfl bF bo rfl ?_
  refine Run.callPure oE ny hI (ml _ _ _ S) fun w' hI=>?_
  refine iD (fun h2=>?_) (fun h2=>?_)
  ·have h2':=h2
   rw [Bool.and_eq_true] at h2'
   refine aI hI 1 rfl bp bm rfl ?_
   refine cN ?_
   refine gx h2 ?_
   refine iD (fun h3=>?_) (fun h3=>hfin hI ?_)
   ·refine aI hI 1 rfl aT aR rfl ?_
    refine a9 hks ay ?_
    refine bR ?_
    refine gx h3 (hfin hI ?_)
    rw [ho,h2'.1,h2'.2,show decide (s=emptyB)=true from h3]
    simp
   ·rw [ho,h2'.1,h2'.2,show decide (s=emptyB)=false from h3]; rfl
  ·refine lW (hfin hI ?_)
   rw [ho,<- Bool.and_assoc,h2]; rfl
 refine bR ?_
 have hk12:¬ (k=1 ∨ k=2):=fun h=>h.elim hk hk2
 refine bl (fun hk3=>?_) (fun hk3=>?_)
 ·have ho:ez (.mk k n s ks)=(decide (n=0) && (lM s && decide (ks.length<=4))):=by
   rw [ez]; exact (if_neg hk).trans ((if_neg hk2).trans (if_pos hk3))
  refine ⟨fun t w'=>t=.bool (!ez (.mk k n s ks))/\Inv w (bX [iM bc c]) [iM bc (c+1),.blk b3 (.cells #[.int .i64 k,.int .i64 n,.string s,kv] ab),.blk b4 (.cells #[.int .i64 deep] fu),.blk b5 (.cells #[.pointer (some ⟨bc,0,none⟩)] l5)] S w',?_,?_⟩
  ·refine aI hI 1 rfl bF bo rfl ?_
   refine gh ?_
   refine Ec (fun h1=>?_) (fun h1=>?_)
   ·have h1':decide (n=0)=false:=by simpa using h1
    refine Nd ⟨?_,hI⟩
    rw [ho,h1']; rfl
   ·have h1':decide (n=0)=true:=by simpa using h1
    refine aI hI 1 rfl bp bm rfl ?_
    refine Run.callPure xX yQ hI (tJ s hs S) fun w' hI=>?_
    refine dh ?_
    refine vP h1 ?_
    refine Ec (fun h2=>⟨?_,hI⟩) (fun h2=>?_)
    ·have h2':lM s=false:=by simpa using h2
     rw [ho,h1',h2']; rfl
    ·have h2':lM s=true:=by simpa using h2
     refine aI hI 1 rfl aT aR rfl ?_
     refine a9 hks ay ?_
     refine eh ?_
     refine vP h2 ⟨?_,hI⟩
     rw [ho,h1',h2',Bool.true_and,Bool.true_and]
     congr 1
     rw [Bool.eq_iff_iff]
     simp
     omega
  intro t _ _ _ _ _ _ _ _ _ _ _ _ _ _ w'
  rintro ⟨rfl,hI⟩
  refine ba (fun hb1=>?_) (fun hb1=>?_)
  ·have hb1':ez (.mk k n s ks)=false:=by simpa using hb1
   exact hend (false,c+1) hI rfl (hsc _ (by rw [if_neg hk12,if_pos hk3,hb1']; rfl))
  ·have hb1':ez (.mk k n s ks)=true:=by simpa using hb1
   refine aI hI 1 rfl aT aR rfl ?_
   refine mq ?_
   have hcb:Cb Tryz.prog HG Tryz.f128 [.pointer (some ⟨b4,0,none⟩),.pointer (some ⟨b5,0,none⟩)] S
     (fun c:Int=>[iM bc c,.blk b4 (.cells #[.int .i64 deep] fu),.blk b5 (.cells #[.pointer (some ⟨bc,0,none⟩)] l5)]) (fun c=>0<=c/\c<=120)
     (fun c t=>(!(fD t (deep+1) c).1,(fD t (deep+1) c).2)) (fun v x=>∃ cs,v=.agg cs.toArray/\RdT S cs x) ks:=by
    refine ⟨Em,EF,fun st x _ hst hf=>?_,fun st x v hx hst=>?_⟩
    ·have:=Ge x (deep+1) st hst.2 (by simpa using hf)
     omega
    ·rintro ⟨cs,rfl,hcs⟩ w1 hI
     have hl:=hcs.length
     refine yP ?_
     unfold v8
     refine bQ hI fun b w' hI=>?_
     refine bb hI 3 ao rfl (by simpa [Value.cells] using hl) ?_
     refine bG hI 1 bo rfl rfl ?_
     refine bN (by omega) ?_
     refine bG hI 2 DS rfl rfl ?_
     have hI:=hI.perm (M:=[.blk b4 (.cells #[.int .i64 deep] fu),.blk b5 (.cells #[.pointer (some ⟨bc,0,none⟩)] l5),.blk b (.cells (Value.agg cs.toArray).cells ab)]++[iM bc st])
      (List.perm_append_comm (l₁:=[_,_,_]) (l₂:=[iM bc st]))
     refine Run.call Bw BH hI (ih x hx S cs (deep+1) st bc hcs (by omega) (by omega) hst.1 hst.2) fun v' I' S' w'=>?_
     rintro ⟨rfl,rfl,rfl⟩ _ hI
     refine dh ?_
     have hI:=(hI.perm (M:=[iM bc (fD x (deep+1) st).2]++[.blk b4 (.cells #[.int .i64 deep] fu),.blk b5 (.cells #[.pointer (some ⟨bc,0,none⟩)] l5),.blk b (.cells (Value.agg cs.toArray).cells ab)])
      List.perm_append_comm).pick [true,true,true,false]
     exact ⟨_,_,_,rfl,hI,Ext.refl _ _ _,rfl,rfl,rfl⟩
   have hI:=hI.perm (M:=[.blk b3 (.cells #[.int .i64 k,.int .i64 n,.string s,kv] ab)]++[iM bc (c+1),.blk b4 (.cells #[.int .i64 deep] fu),.blk b5 (.cells #[.pointer (some ⟨bc,0,none⟩)] l5)]) (List.Perm.swap _ _ _)
   refine Run.call eB eA hI (ff hcb hks ⟨by omega,by omega⟩) fun v' I' S' w'=>?_
   rintro ⟨rfl,rfl,rfl⟩ _ hI
   refine dh ?_
   rw [Cu] at hI ⊢
   have hI:=hI.perm (M:=[iM bc (jH ks (deep+1) (c+1)).2,.blk b3 (.cells #[.int .i64 k,.int .i64 n,.string s,kv] ab),.blk b4 (.cells #[.int .i64 deep] fu),.blk b5 (.cells #[.pointer (some ⟨bc,0,none⟩)] l5)]) (List.Perm.swap _ _ _)
   refine hend (jH ks (deep+1) (c+1)) hI (by simp) (hsc _ (by rw [if_neg hk12,if_pos hk3,hb1']; rfl))
 ·exact hend (false,c+1) hI rfl (hsc _ (by rw [if_neg hk12,if_neg hk3]))

theorem ll {t:T} {S:aF} {cs:List Value} (h:RdT S cs t):Pure Tryz.prog AM [.agg cs.toArray] S (.bool (ft t)):=by
 intro w hI
 have hl:=h.length
 refine rB ?_
 unfold oh
 refine bQ hI fun b1 w' hI=>?_
 refine bH hI MJ fun b2 w' hI=>?_
 refine fg hI 1 (n:=1) rfl (by rw [bo]; rfl) rfl (Nat.le_of_ble_eq_true rfl) (by simp [Value.cells]; rfl) fun w' hI=>?_
 refine bb hI 0 ao rfl (by simpa [Value.cells] using hl) ?_
 refine Run.call (A:=[_]) (I:=[iM b2 0]) Bw BH hI (HT t S cs 1 0 b2 h (by omega) (by omega) (by omega) (by omega)) fun v' I' S' w'=>?_
 rintro ⟨rfl,rfl,rfl⟩ _ hI
 exact done hI (by rw [HB])

end Go.Proofs.YtemmhhdnlbmicaaGreat
