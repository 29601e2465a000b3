/- Proofs as data: how they read out of published memory, how they are made, their sizes, copies, equality, and the row's reading of them. -/
import Derived.Test.YtbocelianhcfmaaGreatDoorZEf1
import Derived.Test.YtbocelianhcfmaaGreatDoorZEf0
import Derived.Test.YtbocelianhcfmaaGreatDoorZEf2
import Derived.Test.YtbocelianhcfmaaGreatDoorRows
import Derived.Test.YtbocelianhcfmaaGreatDoorTie
import Derived.Lib.LaidTab
import Derived.ProofKit
import Derived.LaidMore
import Derived.LaidLaws
namespace Go.Proofs.YtbocelianhcfmaaGreatDoor
section
open Go Go.ChangeShapes Go.WideShapes Go.ChangeAt Go.RowKit

inductive PF where
 | mk (goal:T) (clause:Int) (kids:List PF)
def PF.goal:PF->T
 | .mk g _ _=>g
def PF.clause:PF->Int
 | .mk _ c _=>c
def PF.kids:PF->List PF
 | .mk _ _ ks=>ks
theorem PF.ind {p:PF->Prop} (h:∀ g c ks,(∀ t∈ks,p t)->p (.mk g c ks)) (t:PF):p t:=
 PF.rec (motive_1:=p) (motive_2:=fun l=>∀ t∈l,p t) (fun g c ks ih=>h g c ks ih) (by simp) (fun a l h1 h2 t ht=>by
  rcases List.mem_cons.1 ht with rfl|ht
  ·exact h1
  ·exact h2 t ht) t
inductive RdF (S:ab):List Value->PF->Prop
 | nil {a0 a1 a2 a3:Value} {g:T} {c:Int} {a:Option Addr} {cap:Nat} (hg:RdT S [a0,a1,a2,a3] g) (hn:inI c) (hc:cap<=maxLen) :
   RdF S [a0,a1,a2,a3,.int .i64 c,.slice a 0 cap] (.mk g c [])
 | cons {a0 a1 a2 a3:Value} {g:T} {n:Int} {kids:List PF} {b o cap:Nat} {c:Array Value} {E:TypeId} {fz:Nat × Nat} (hg:RdT S [a0,a1,a2,a3] g) (hn:inI n) (hl:kids.length<=cap) (hc:cap<=maxLen)
   (hS:S b=some (.cells c E fz)) (h:∀ i (h:i<kids.length),RdF S (aF c (o+i * 6) 6) kids[i]) :
   RdF S [a0,a1,a2,a3,.int .i64 n,.slice (some ⟨b,o,none⟩) kids.length cap] (.mk g n kids)
theorem RdF.iff {S:ab} {cs:List Value} {x:PF}:RdF S cs x ↔
  ∃ kv ks,cs=[.int .i64 x.goal.kind,.int .i64 x.goal.n,.string x.goal.name,kv,.int .i64 x.clause,ks]/\RdT S [.int .i64 x.goal.kind,.int .i64 x.goal.n,.string x.goal.name,kv] x.goal/\inI x.clause/\RdSl S 6 (RdF S) ks x.kids:=by
 constructor
 ·intro h
  cases h with
  | nil hg hn hc=>
   obtain ⟨kv,e,_⟩:=RdT.iff.1 hg
   simp only [List.cons.injEq,and_true] at e
   obtain ⟨rfl,rfl,rfl,rfl⟩:=e
   exact ⟨_,_,rfl,hg,hn,_,_,rfl,Nat.zero_le _,hc,.inl rfl⟩
  | cons hg hn hl hc hS h=>
   obtain ⟨kv,e,_⟩:=RdT.iff.1 hg
   simp only [List.cons.injEq,and_true] at e
   obtain ⟨rfl,rfl,rfl,rfl⟩:=e
   exact ⟨_,_,rfl,hg,hn,_,_,rfl,hl,hc,.inr ⟨_,_,_,_,_,rfl,hS,h⟩⟩
 ·obtain ⟨g,n,kids⟩:=x
  rintro ⟨kv,ks,rfl,hg,hn,a,cap,rfl,hl,hc,h⟩
  rcases h with h|⟨b,o,c,E,fz,rfl,hS,h⟩
  ·simp only [PF.kids] at h
   subst h
   exact RdF.nil hg hn hc
  ·exact RdF.cons hg hn hl hc hS h
theorem RdF.length {S:ab} {cs:List Value} {x:PF} (h:RdF S cs x):cs.length=6:=by
 obtain ⟨_,_,rfl,_⟩:=RdF.iff.1 h; rfl
theorem RdF.one {S:ab} {cs:List Value} {x:PF} (h:RdF S cs x):∀ u∈cs,u.oneCell'=true:=by
 obtain ⟨kv,ks,rfl,hg,_,a,cap,rfl,_⟩:=RdF.iff.1 h
 have:=hg.one kv (by simp)
 intro u hu
 simp at hu
 rcases hu with rfl|rfl|rfl|rfl|rfl|rfl <;> first|rfl|exact this
theorem RdF.mono {S S':ab} (hs:Sle S S') {cs:List Value} {x:PF} (h:RdF S cs x):RdF S' cs x:=by
 induction h with
 | nil hg hn hc=>exact RdF.nil (hg.mono hs) hn hc
 | cons hg hn hl hc hS _ ih=>exact RdF.cons (hg.mono hs) hn hl hc (hs _ _ hS) ih
inductive TrF:aq->List Value->PF->Prop
 | nil {L:aq} {a0 a1 a2 a3:Value} {g:T} {n:Int} {a:Option Addr} {cap:Nat} (hg:TrT L [a0,a1,a2,a3] g) (hn:inI n) (hc:cap<=maxLen) :
   TrF L [a0,a1,a2,a3,.int .i64 n,.slice a 0 cap] (.mk g n [])
 | cons {L:aq} {a0 a1 a2 a3:Value} {g:T} {n:Int} {kids:List PF} {b cap:Nat} {c:Array Value} {E:TypeId} {Ls:List aq} (hg:TrT L [a0,a1,a2,a3] g) (hn:inI n) (hl:kids.length<=cap) (hc:cap<=maxLen)
   (hLs:Ls.length=kids.length) (hsz:cap * 6<=c.size) (h:∀ i (h:i<kids.length) (h':i<Ls.length),TrF Ls[i] (aF c (i * 6) 6) kids[i]) :
   TrF (L++(b,.cells c E)::Ls.flatten) [a0,a1,a2,a3,.int .i64 n,.slice (some ⟨b,0,none⟩) kids.length cap] (.mk g n kids)
theorem TrF.iff {L:aq} {cs:List Value} {x:PF}:TrF L cs x ↔
  ∃ L1 L2 kv ks,L=L1++L2/\cs=[.int .i64 x.goal.kind,.int .i64 x.goal.n,.string x.goal.name,kv,.int .i64 x.clause,ks]/\TrT L1 [.int .i64 x.goal.kind,.int .i64 x.goal.n,.string x.goal.name,kv] x.goal/\inI x.clause/\TrSl 6 TrF L2 ks x.kids:=by
 constructor
 ·intro h
  cases h with
  | nil hg hn hc=>
   obtain ⟨kv,e,_⟩:=TrT.iff.1 hg
   simp only [List.cons.injEq,and_true] at e
   obtain ⟨rfl,rfl,rfl,rfl⟩:=e
   exact ⟨_,[],_,_,(List.append_nil _).symm,rfl,hg,hn,_,_,rfl,Nat.zero_le _,hc,.inl ⟨rfl,rfl⟩⟩
  | cons hg hn hl hc hLs hsz h=>
   obtain ⟨kv,e,_⟩:=TrT.iff.1 hg
   simp only [List.cons.injEq,and_true] at e
   obtain ⟨rfl,rfl,rfl,rfl⟩:=e
   exact ⟨_,_,_,_,rfl,rfl,hg,hn,_,_,rfl,hl,hc,.inr ⟨_,_,_,_,rfl,rfl,hLs,hsz,h⟩⟩
 ·obtain ⟨g,n,kids⟩:=x
  rintro ⟨L1,L2,kv,ks,rfl,rfl,hg,hn,a,cap,rfl,hl,hc,h⟩
  rcases h with ⟨h,rfl⟩|⟨b,c,E,Ls,rfl,rfl,hLs,hsz,h⟩
  ·simp only [PF.kids] at h
   subst h
   rw [List.append_nil]
   exact TrF.nil hg hn hc
  ·exact TrF.cons hg hn hl hc hLs hsz h
theorem TrF.length {L:aq} {cs:List Value} {x:PF} (h:TrF L cs x):cs.length=6:=by
 obtain ⟨_,_,_,_,_,rfl,_⟩:=TrF.iff.1 h; rfl
theorem TrF.one {L:aq} {cs:List Value} {x:PF} (h:TrF L cs x):∀ u∈cs,u.oneCell'=true:=by
 obtain ⟨_,_,kv,ks,_,rfl,hg,_,a,cap,rfl,_⟩:=TrF.iff.1 h
 have:=hg.one kv (by simp)
 intro u hu
 simp at hu
 rcases hu with rfl|rfl|rfl|rfl|rfl|rfl <;> first|rfl|exact this
theorem TrF.rd {S:ab} {L:aq} {cs:List Value} {x:PF} (h:TrF L cs x) (hi:Ins S L):RdF S cs x:=by
 induction h with
 | nil hg hn hc=>exact RdF.nil (hg.rd hi) hn hc
 | cons hg hn hl hc hLs hsz h ih=>
  refine RdF.cons (hg.rd hi.left) hn hl hc (hi.right _ (List.mem_cons_self ..)) (o:=0) fun i h1=>?_
  rw [Nat.zero_add]
  exact ih i h1 (by omega) (nS (fun p hp=>hi.right p (List.mem_cons_of_mem _ hp)) (by omega))
mutual
def szF:PF->Int->Int
 | .mk g _ ks,left=>if szT g left<0 then -1 else if szT g left - ks.length<0 then -1 else ex ks (szT g left - ks.length)
def ex:List PF->Int->Int
 | [],left=>left
 | t::ts,left=>if szF t left<0 then -1 else ex ts (szF t left)
end
def rY (ts:List PF) (left:Int):Int:=if left - ts.length<0 then -1 else ex ts (left - ts.length)
mutual
theorem sU:∀ (t:PF) (left:Int),0<=left->-1<=szF t left/\szF t left<=left
 | .mk g n ks,left,h=>by
  have hg:=kG g left h
  simp only [szF]
  split
  ·omega
  ·split
   ·omega
   ·have:=nl ks (szT g left - ks.length) (by omega)
    omega
theorem nl:∀ (ts:List PF) (left:Int),0<=left->-1<=ex ts left/\ex ts left<=left
 | [],left,h=>by simp only [ex]; omega
 | t::ts,left,h=>by
  simp only [ex]
  have h1:=sU t left h
  split
  ·omega
  ·have h2:=nl ts (szF t left) (by omega)
   omega
end
mutual
def wF:PF->Nat
 | .mk g _ ks=>wT g+ks.length+wFL ks
def wFL:List PF->Nat
 | []=>0
 | t::ts=>wF t+wFL ts
end
theorem nV:∀ {ts:List PF} {t:PF},t∈ts->wF t<=wFL ts
 | x::xs,t,h=>by
  simp only [wFL]
  rcases List.mem_cons.1 h with rfl|h
  ·omega
  ·have:=nV h; omega
mutual
theorem uh:∀ (t:PF) (left:Int),0<=left->0<=szF t left->szF t left+wF t<=left
 | .mk g n ks,left,h,h0=>by
  rw [szF] at h0 ⊢
  have hg:=kG g left h
  split at h0
  ·omega
  ·rename_i e1
   split at h0
   ·omega
   ·rename_i e2
    rw [if_neg e1,if_neg e2,wF]
    have h1:=uc g left h (by omega)
    have h2:=sC ks (szT g left - ks.length) (by omega) h0
    omega
theorem sC:∀ (ts:List PF) (left:Int),0<=left->0<=ex ts left->ex ts left+wFL ts<=left
 | [],left,h,h0=>by rw [ex,wFL]; omega
 | t::ts,left,h,h0=>by
  rw [ex] at h0 ⊢
  split at h0
  ·omega
  ·rename_i e1
   rw [if_neg e1,wFL]
   have h1:=uh t left h (by omega)
   have h2:=sC ts (szF t left) (by omega) h0
   omega
end
mutual
def eqF:PF->PF->Bool
 | .mk g n ks,.mk g' n' ks'=>eqT g g' && (decide (n=n') && hZ ks ks')
def hZ:List PF->List PF->Bool
 | [],[]=>true
 | t::ts,u::us=>eqF t u && hZ ts us
 | _,_=>false
end
mutual
theorem qW:∀ a b:PF,eqF a b=true↔a=b
 | .mk g n ks,.mk g' n' ks'=>by
  simp only [eqF,Bool.and_eq_true,decide_eq_true_eq,kZ ks ks',PF.mk.injEq,rj]
theorem kZ:∀ a b:List PF,hZ a b=true↔a=b
 | [],[]=>by simp [hZ]
 | [],_::_=>by simp [hZ]
 | _::_,[]=>by simp [hZ]
 | t::ts,u::us=>by
  simp only [hZ,Bool.and_eq_true,qW t u,kZ ts us,List.cons.injEq]
end
theorem s8:∀ {a b:List PF},a.length≠b.length->hZ a b=false:=by
 intro a b h
 rw [<- Bool.not_eq_true,kZ]
 rintro rfl
 exact h rfl
theorem jJ {a b c d e f:Value}:∀ (j:Nat) (v:Value),([a,b,c,d]:List Value)[j]?=some v->(#[a,b,c,d,e,f]:Array Value)[0+j]?=some v
 | 0,_,h|1,_,h|2,_,h|3,_,h=>h
 | j+4,_,h=>by simp at h
section
attribute [local irreducible] Run CondV ah ax
theorem pd {ts:List PF} (ih:∀ t∈ts,∀ (S:ab) (cs:List Value) (left:Int),RdF S cs t->0<=left->left<=4611686018427387904->Pure Tryz.prog jt [.agg cs.toArray,.int .i64 left] S (.int .i64 (szF t left)))
  {S:ab} {v:Value} {left:Int} (h:RdSl S 6 (RdF S) v ts) (h0:0<=left) (h1:left<=4611686018427387904):Pure Tryz.prog n6 [v,.int .i64 left] S (.int .i64 (rY ts left)):=by
 intro w hI
 have hlen:(ts.length:Int)<=9223372036854775807:=by have:=h.le; simp only [maxLen] at this; omega
 refine fK.2 ?_
 dsimp only[fK,aC]
 refine az h bK ?_
 refine fG (by omega) ?_
 refine aZ ?_
 refine aP (fun hlt=>?_) (fun hlt=>?_)
 ·exact ae hI (by rw [rY,if_pos hlt])
 refine ⟨fun i l w'=>∃ (k:Nat) (l':Int),k<=ts.length/\i=.int .i64 k/\l=.int .i64 l'/\0<=l'/\l'<=left/\ex (ts.drop k) l'=ex ts (left - ts.length)/\Inv w [] [] S w',
  fun i _ _=>ts.length - (intOf i).toNat,⟨0,_,Nat.zero_le _,rfl,rfl,by omega,by omega,rfl,hI⟩,?_⟩
 intro t5 _ _ _ _ _ t1 _ _ _ _ _ _ _ _ _ _ w'
 rintro ⟨k,l',hk,rfl,rfl,hl0,hl1,hrel,hI⟩
 refine az h bK ?_
 refine aZ ?_
 refine aP (fun hki=>?_) (fun hki=>?_)
 ·have hk':k<ts.length:=by omega
  refine bm hI h bK cR hk' (fun _ _=>RdF.length) fun cs hcs=>?_
  have hb:=sU ts[k] l' hl0
  refine Run.callPure gG gi hI (ih _ (List.getElem_mem _) S cs l' hcs hl0 (by omega)) fun w' hI=>?_
  have hstep:ex (ts.drop k) l'=if szF ts[k] l'<0 then -1 else ex (ts.drop (k+1)) (szF ts[k] l'):=by
   rw [List.drop_eq_getElem_cons hk',ex]
  refine aZ ?_
  refine aP (fun hneg=>?_) (fun hneg=>?_)
  ·exact ae hI (by rw [rY,if_neg hlt,<- hrel,hstep,if_pos hneg])
  ·refine br (by omega) ?_
   refine ⟨⟨k+1,_,hk',rfl,rfl,by omega,by omega,?_,hI⟩,by simp [intOf]; omega⟩
   rw [<- hrel,hstep,if_neg hneg]
 ·have:k=ts.length:=by omega
  subst this
  exact ae hI (by rw [rY,if_neg hlt,<- hrel,List.drop_length,ex])
theorem mi:∀ (t:PF) (S:ab) (cs:List Value) (left:Int),RdF S cs t->0<=left->left<=4611686018427387904->
  Pure Tryz.prog jt [.agg cs.toArray,.int .i64 left] S (.int .i64 (szF t left)):=by
 refine PF.ind fun g c ks ih S cs left h h0 h1=>?_
 intro w hI
 obtain ⟨kv,kf,rfl,hg,hc,hks⟩:=RdF.iff.1 h
 simp only [PF.goal,PF.kids,PF.clause] at hg hc hks ⊢
 refine ic.2 ?_
 dsimp only[ic,aC]
 refine aG hI fun b w' hI=>?_
 refine a8 jG ?_
 refine bW hI 0 [_,_,_,_] g9 rfl rfl jJ ?_
 refine Run.callPure jW jQ hI (n8 g S _ left hg h0 h1) fun w' hI=>?_
 have hgl:=kG g left h0
 refine aZ ?_
 refine aP (fun hlt=>?_) (fun hlt=>?_)
 ·exact ae hI (by rw [szF,if_pos hlt])
 refine aa hI 0 rfl jO kX rfl ?_
 refine Run.callPure mr mz hI (pd ih hks (by omega) (by omega)) fun w' hI=>?_
 refine aZ ?_
 refine aP (fun hneg=>?_) (fun hneg=>?_)
 ·refine ae hI ?_
  rw [szF,if_neg hlt]
  unfold rY at hneg
  split
  ·rfl
  ·rename_i h3
   rw [if_neg h3] at hneg
   have:=nl ks (szT g left - ks.length) (by omega)
   congr 1; omega
 ·refine ae hI ?_
  rw [szF,if_neg hlt]
  rfl
abbrev sV (S:ab) (t:PF):Value->List Item->ab->Prop:=fun v I' S'=>S'=S/\∃ cs L,v=.agg cs.toArray/\I'=cF L/\TrF L cs t
theorem pq {ts:List PF} (ih:∀ t∈ts,∀ (S:ab) (cs:List Value),RdF S cs t->wF t<=1048576->Tri Tryz.prog ey [.agg cs.toArray] [] S (sV S t))
  {S:ab} {v:Value} (h:RdSl S 6 (RdF S) v ts) (hw:ts.length+wFL ts<=1048576):Tri Tryz.prog nO [v] [] S (se 6 TrF S ts):=by
 intro w hI
 refine fR.2 ?_
 dsimp only[fR,am]
 refine az h bK ?_
 refine jv hI qR (by omega) (by omega) fun b c w' hc hI=>?_
 refine ⟨fun i w'=>∃ (k:Nat) (c:Array Value) (Ls:List aq),k<=ts.length/\i=.int .i64 k/\c.size=ts.length * 6/\Part 6 TrF c Ls (ts.take k)/\Inv w [] (cF ((b,.cells c aN)::Ls.flatten)) S w',
  fun i _=>ts.length - (intOf i).toNat,⟨0,c,[],Nat.zero_le _,rfl,hc,Part.nil _ _ _,hI⟩,?_⟩
 intro t4 _ _ _ _ _ _ _ _ _ _ _ _ _ _ w'
 rintro ⟨k,c,Ls,hk,rfl,hc,hp,hI⟩
 refine az h bK ?_
 refine aZ ?_
 refine aP (fun hki=>?_) (fun hki=>?_)
 ·have hk':k<ts.length:=by omega
  have htl:(ts.take k).length=k:=by simp; omega
  refine bm hI h bK cR hk' (fun _ _=>RdF.length) fun cs hcs=>?_
  have hm:=List.getElem_mem hk'
  have hwm:=nV hm
  refine Run.call0 hY hH hI (ih _ hm S cs hcs (by omega)) fun v' I' S' w'=>?_
  rintro ⟨rfl,cs',L,rfl,rfl,hT⟩ _ hI
  refine ph hI 0 (k:=6) (by rfl) aK aD hk' (by omega) (by simp [Value.cells,hT.length]) (by simpa [Value.cells] using hT.one) fun w' hI=>?_
  refine br (by omega) ?_
  refine ⟨⟨k+1,aM c (k * 6) cs',Ls++[L],hk',rfl,?_,?_,?_⟩,by simp [intOf]; omega⟩
  ·rw [fQ _ _ _ (by rw [hT.length]; omega)]; exact hc
  ·have:=hp.snoc hT hT.length (by rw [htl]; omega)
   rw [htl] at this
   rw [List.take_succ_eq_append_getElem hk']
   exact this
  ·simp only [List.flatten_append,List.flatten_cons,List.flatten_nil,List.append_nil]
   simpa [cF,Value.cells] using hI
 ·have:k=ts.length:=by omega
  subst this
  rw [List.take_length] at hp
  exact ⟨_,_,_,rfl,hI,Ext.refl _ _ _,rfl,_,rfl,hp.sl (Nat.le_refl _) (by simp only [maxLen]; omega) (by omega)⟩
theorem lX:∀ (t:PF) (S:ab) (cs:List Value),RdF S cs t->wF t<=1048576->Tri Tryz.prog ey [.agg cs.toArray] [] S (sV S t):=by
 refine PF.ind fun g n ks ih S cs h hw=>?_
 intro w hI
 obtain ⟨kv,kf,rfl,hg,hc,hks⟩:=RdF.iff.1 h
 simp only [PF.goal,PF.kids,PF.clause] at hg hc hks ⊢
 simp only [wF] at hw
 refine iq.2 ?_
 dsimp only[iq,am]
 refine aG hI fun b1 w' hI=>?_
 refine cm hI fk fun b2 w' hI=>?_
 refine cm hI fk fun b3 w' hI=>?_
 refine a8 jG ?_
 refine bW hI 0 [_,_,_,_] g9 rfl rfl jJ ?_
 refine Run.call0 e8 eI hI (d9 g S _ hg (by omega)) fun v' I' S' w'=>?_
 rintro ⟨rfl,cs1,L1,rfl,rfl,hT1⟩ _ hI
 obtain ⟨kv1,rfl,e1,e2,e3,e4⟩:=TrT.iff.1 hT1
 have hv1:kv1.oneCell'=true:=by obtain ⟨a,cap,rfl,_⟩:=e4; rfl
 refine a8 bF ?_
 refine r4 hI 2 rfl ac rfl rfl ?_ fun w' hI=>?_
 ·intro u hu
  simp [Value.cells] at hu
  rcases hu with rfl|rfl|rfl|rfl <;> first|rfl|exact hv1
 refine aa hI 0 rfl o4 ar rfl ?_
 refine cS hI 2 rfl bf ar rfl rfl rfl fun w' hI=>?_
 refine aa hI 0 rfl jO kX rfl ?_
 refine Run.call0 l9 mo hI (pq ih hks (by omega)) fun v' I' S' w'=>?_
 rintro ⟨rfl,L2,rfl,hT2⟩ _ hI
 have hv:v'.cells=#[v']/\v'.oneCell'=true:=by obtain ⟨a,cap,rfl,_⟩:=hT2; exact ⟨rfl,rfl⟩
 refine cS hI 2 rfl aS aY rfl hv.1 hv.2 fun w' hI=>?_
 refine ao hI 2 aD rfl rfl ?_
 have h1:∀ u∈([.int .i64 g.kind,.int .i64 g.n,.string g.name,kv1,.int .i64 n,v']:List Value),u.oneCell'=true:=by
  intro u hu
  simp at hu
  rcases hu with rfl|rfl|rfl|rfl|rfl|rfl <;> first|rfl|exact hv1|exact hv.2
 refine cB hI 1 rfl aD rfl rfl h1 fun w' hI=>?_
 refine q5 hI 1 aD rfl rfl ?_
 have hI':=hI.sub (List.sublist_append_right [_,_,_] (cF L1++cF L2))
 rw [<- pC] at hI'
 exact ⟨_,_,_,rfl,hI',Ext.refl _ _ _,rfl,[.int .i64 g.kind,.int .i64 g.n,.string g.name,kv1,.int .i64 n,v'],L1++L2,rfl,rfl,TrF.iff.2 ⟨L1,L2,kv1,v',rfl,rfl,hT1,hc,hT2⟩⟩
theorem pk {xs:List PF} (ih:∀ t∈xs,∀ (u:PF) (S:ab) (cs ds:List Value),RdF S cs t->RdF S ds u->Pure Tryz.prog jU [.agg cs.toArray,.agg ds.toArray] S (.bool (eqF t u)))
  {ys:List PF} {S:ab} {v u:Value} (h:RdSl S 6 (RdF S) v xs) (h':RdSl S 6 (RdF S) u ys):Pure Tryz.prog nh [v,u] S (.bool (hZ xs ys)):=by
 intro w hI
 have hlen:(xs.length:Int)<=9223372036854775807:=by have:=h.le; simp only [maxLen] at this; omega
 refine fM.2 ?_
 dsimp only[fM,aC]
 refine az h aK ?_
 refine az h' aK ?_
 refine mK ?_
 refine ak (fun hne=>?_) (fun he=>?_)
 ·exact ae hI (by rw [s8 (by simp at hne; omega)])
 have he:xs.length=ys.length:=by simp at he; omega
 refine ⟨fun i w'=>∃ (k:Nat),k<=xs.length/\i=.int .i64 k/\hZ (xs.drop k) (ys.drop k)=hZ xs ys/\Inv w [] [] S w',fun i _=>xs.length - (intOf i).toNat,⟨0,Nat.zero_le _,rfl,rfl,hI⟩,?_⟩
 intro t5 _ _ _ _ _ _ _ _ _ _ _ _ _ _ _ _ _ w'
 rintro ⟨k,hk,rfl,hrel,hI⟩
 refine az h aK ?_
 refine aZ ?_
 refine aP (fun hki=>?_) (fun hki=>?_)
 ·have hk1:k<xs.length:=by omega
  have hk2:k<ys.length:=by omega
  obtain ⟨b1,o1,cap1,c1,E1,fz1,rfl,hS1,hR1⟩:=h.at_ hk1
  obtain ⟨b2,o2,cap2,c2,E2,fz2,rfl,hS2,hR2⟩:=h'.at_ hk2
  have hstep:hZ (xs.drop k) (ys.drop k)=(eqF xs[k] ys[k] && hZ (xs.drop (k+1)) (ys.drop (k+1))):=by
   rw [List.drop_eq_getElem_cons hk1,List.drop_eq_getElem_cons hk2,hZ]
  refine ⟨fun D pt oJ ri sq sY tZ uf ud u5 uW w_=>Fx D 0 [uW=.slice (some ⟨b1,o1,none⟩) xs.length cap1,u5=.int .i64 k,ud=.pointer (some ⟨b1,o1+k * 6,none⟩),uf=.agg (aF c1 (o1+k * 6) 6).toArray,tZ=.slice (some ⟨b2,o2,none⟩) ys.length cap2,sY=.int .i64 k,sq=.pointer (some ⟨b2,o2+k * 6,none⟩),ri=.agg (aF c2 (o2+k * 6) 6).toArray,oJ=.bool (eqF xs[k] ys[k]),pt=.bool (!eqF xs[k] ys[k])]/\Inv w [] [] S w_,⟨Fx.nil _ _,hI.draw⟩,⟨?_,?_,?_,?_,?_,?_,?_,?_,?_,?_,trivial⟩,?_⟩
  all_goals (intro D uz; intros; rename_i pt oJ ri sq sY tZ uf ud u5 uW w_ hA_; have hF_:=hA_.1; obtain ⟨⟨kA,kL,k0,lK,lP,mI,mS,nI,qo,tR,_⟩,hI⟩:=hA_)
  ·exact ⟨hF_.set 0 rfl,hI⟩
  ·exact ⟨hF_.set 1 rfl,hI⟩
  ·obtain rfl:=kA ‹_›
   obtain rfl:=kL ‹_›
   refine bd aK hk1 ?_
   exact ⟨hF_.set 2 rfl,hI⟩
  ·obtain rfl:=k0 ‹_›
   refine cj aD hR1.length (fun j v hj=>by rw [hI.cellS hS1]; exact bb rfl j v hj) ?_
   exact ⟨hF_.set 3 rfl,hI⟩
  ·exact ⟨hF_.set 4 rfl,hI⟩
  ·exact ⟨hF_.set 5 rfl,hI⟩
  ·obtain rfl:=lP ‹_›
   obtain rfl:=mI ‹_›
   refine bd aK hk2 ?_
   exact ⟨hF_.set 6 rfl,hI⟩
  ·obtain rfl:=mS ‹_›
   refine cj aD hR2.length (fun j v hj=>by rw [hI.cellS hS2]; exact bb rfl j v hj) ?_
   exact ⟨hF_.set 7 rfl,hI⟩
  ·obtain rfl:=lK ‹_›
   obtain rfl:=nI ‹_›
   refine Run.callPure gQ ix hI (ih _ (List.getElem_mem hk1) _ S _ _ hR1 hR2) fun w_ hI=>?_
   exact ⟨hF_.set 8 rfl,hI⟩
  ·obtain rfl:=qo ‹_›
   refine bv ?_
   exact ⟨hF_.set 9 rfl,hI⟩
  obtain ⟨rfl,rfl,rfl,rfl,rfl,rfl,rfl,rfl,rfl,rfl,_⟩:=hF_.all
  clear hF_ kA kL k0 lK lP mI mS nI qo tR
  refine ak (fun hne=>?_) (fun he'=>?_)
  ·exact ae hI (by rw [<- hrel,hstep]; simp at hne; rw [hne]; rfl)
  ·refine br (by omega) ?_
   refine ⟨⟨k+1,hk1,rfl,?_,hI⟩,by simp [intOf]; omega⟩
   rw [<- hrel,hstep]
   simp at he'
   rw [he',Bool.true_and]
 ·have:k=xs.length:=by omega
  subst this
  refine ae hI ?_
  rw [<- hrel,List.drop_length,he,List.drop_length]
  rfl
theorem mB:∀ (t u:PF) (S:ab) (cs ds:List Value),RdF S cs t->RdF S ds u->Pure Tryz.prog jU [.agg cs.toArray,.agg ds.toArray] S (.bool (eqF t u)):=by
 refine PF.ind fun g n ks ih u S cs ds h h'=>?_
 intro w hI
 obtain ⟨kv,kf,rfl,hg,hc,hks⟩:=RdF.iff.1 h
 obtain ⟨kv',kf',rfl,hg',hc',hks'⟩:=RdF.iff.1 h'
 obtain ⟨g',n',ks'⟩:=u
 simp only [PF.goal,PF.kids,PF.clause] at hg hc hks hg' hc' hks' ⊢
 refine hG.2 ?_
 dsimp only[hG,aC]
 refine aG hI fun b1 w' hI=>?_
 refine aG hI fun b2 w' hI=>?_
 refine a8 bF ?_
 refine bW hI 0 [_,_,_,_] ac rfl rfl jJ ?_
 refine a8 bF ?_
 refine bW hI 1 [_,_,_,_] ac rfl rfl jJ ?_
 refine Run.callPure jA jx hI (nq _ _ S _ _ hg hg') fun w' hI=>?_
 refine bv ?_
 refine ak (fun hne=>ae hI ?_) (fun e1=>?_)
 ·simp at hne; simp [eqF,hne]
 refine aa hI 0 rfl bf ar rfl ?_
 refine aa hI 1 rfl bf ar rfl ?_
 refine mK ?_
 refine ak (fun hne=>ae hI ?_) (fun e2=>?_)
 ·simp at hne; simp [eqF,hne]
 refine aa hI 0 rfl aS aY rfl ?_
 refine aa hI 1 rfl aS aY rfl ?_
 refine Run.callPure lS mq hI (pk ih hks hks') fun w' hI=>?_
 refine bv ?_
 simp at e1 e2
 refine ak (fun hne=>ae hI ?_) (fun e4=>ae hI ?_)
 ·simp at hne; simp [eqF,hne]
 ·simp at e4; simp [eqF,e1,e2,e4]
end
section
variable {H:Type} {enc:TypeId × Value->H} {W:World} {sp:Nat->Bool} {held:Bool}
theorem six {cs:List Value} (h:cs.length=6):∃ a b c d e f,cs=[a,b,c,d,e,f]:=by
 match cs,h with
 | [a,b,c,d,e,f],_=>exact ⟨a,b,c,d,e,f,rfl⟩
theorem pS:∀ (fuel:Nat) (cs:List Value) (x:DataW H × List MemPlace),DataW.trod enc Tryz.prog W 0 sp held fuel dI cs=some x->∃ t,RdF (jq W) cs t:=by
 intro fuel
 induction fuel using Nat.strongRecOn with
 | _ fuel ih=>
  intro cs x h
  obtain ⟨n,hn,hl,hf⟩:=nc rD h
  rw [rI] at hl
  obtain ⟨c0,c1,c2,c3,c4,c5,rfl⟩:=six hl
  obtain ⟨y0,h0⟩:=hf 0 _ _ rfl
  obtain ⟨y1,h1⟩:=hf 1 _ _ rfl
  obtain ⟨y2,h2⟩:=hf 2 _ _ rfl
  rw [pn] at h0
  rw [s7] at h1
  rw [qM] at h2
  obtain ⟨g,hg⟩:=rG _ [c0,c1,c2,c3] _ h0
  obtain ⟨k,rfl,hk⟩:=kQ ga h1
  obtain ⟨ks,hks⟩:=q3 (R:=RdF (jq W)) bK (by omega) h2 fun n' cs' y hn' hy=>ih n' (by omega) cs' y hy
  obtain ⟨kv,e,_⟩:=RdT.iff.1 hg
  simp only [List.cons.injEq,and_true] at e
  obtain ⟨rfl,rfl,rfl,rfl⟩:=e
  exact ⟨.mk g k ks,RdF.iff.2 ⟨_,_,rfl,hg,hk,hks⟩⟩
end
end
section
open Go Go.RowKit
section
attribute [local irreducible] Run CondV ah ax
theorem f4 {σ:Type} {f:FuncId} {fn:Func} {cap:List Value} {S:ab} {It:σ->List Item} {ok:σ->Prop} {step:σ->PF->Bool × σ} {xs:List PF} {v:Value}
  (hcb:Cb Tryz.prog f fn cap S It ok step (fun v x=>∃ cs,v=.agg cs.toArray/\RdF S cs x) xs) (h:RdSl S 6 (RdF S) v xs) {st:σ} (hok:ok st) :
  Tri Tryz.prog fw [v,fv f cap] (It st) S fun r I' S'=>r=.int .i64 (aX step st xs 0).1/\I'=It (aX step st xs 0).2/\S'=S:=by
 intro w hI
 have hlen:=h.le
 simp only [maxLen] at hlen
 refine cw.2 ?_
 dsimp only[cw,aC]
 refine az h aK ?_
 refine ⟨fun i w'=>∃ (k:Nat) (st':σ),k<=xs.length/\i=.int .i64 k/\ok st'/\aX step st' (xs.drop k) k=aX step st xs 0/\Inv w (aH (It st)) (It st') S w',fun i _=>xs.length - (intOf i).toNat,
  ⟨0,st,Nat.zero_le _,rfl,hok,rfl,hI⟩,?_⟩
 intro t8 _ _ _ _ _ _ _ _ _ _ _ _ w'
 rintro ⟨k,st',hk,rfl,hok',hrel,hI⟩
 refine aZ ?_
 refine aP (fun hki=>?_) (fun hki=>?_)
 ·have hk':k<xs.length:=by omega
  have hm:=List.getElem_mem hk'
  have hstep:aX step st' (xs.drop k) k=if (step st' xs[k]).1 then ((k:Int),(step st' xs[k]).2) else aX step (step st' xs[k]).2 (xs.drop (k+1)) (k+1):=by
   rw [List.drop_eq_getElem_cons hk',aX]
  refine bm hI h aK aD hk' (fun _ _=>RdF.length) fun cs hcs=>?_
  refine Run.callV (A:=[]) (args:=[.agg cs.toArray]) hcb.hf hcb.hn (by simpa using hI) (hcb.call st' _ _ hm hok' ⟨cs,rfl,hcs⟩) fun v' I' S' w'=>?_
  rintro ⟨rfl,rfl,rfl⟩ _ hI
  refine ak (fun hb=>?_) (fun hb=>?_)
  ·rw [if_pos hb] at hstep
   refine ⟨_,_,_,rfl,by simpa using hI,Ext.refl _ _ _,?_,?_,rfl⟩
   ·rw [<- hrel,hstep]
   ·rw [<- hrel,hstep]
  ·refine br (by omega) ?_
   rw [hb] at hstep
   refine ⟨⟨k+1,_,hk',rfl,hcb.keep st' _ hm hok' hb,?_,by simpa using hI⟩,by simp [intOf]; omega⟩
   rw [<- hrel,hstep]
   rfl
 ·have:k=xs.length:=by omega
  subst this
  rw [List.drop_length,aX] at hrel
  exact ⟨_,_,_,rfl,hI,Ext.refl _ _ _,by rw [<- hrel],by rw [<- hrel],rfl⟩
theorem em {σ:Type} {f:FuncId} {fn:Func} {cap:List Value} {S:ab} {It:σ->List Item} {ok:σ->Prop} {step:σ->PF->Bool × σ} {xs:List PF} {v:Value}
  (hcb:Cb Tryz.prog f fn cap S It ok step (fun v x=>∃ cs,v=.agg cs.toArray/\RdF S cs x) xs) (h:RdSl S 6 (RdF S) v xs) {st:σ} (hok:ok st) :
  Tri Tryz.prog d7 [v,fv f cap] (It st) S fun r I' S'=>r=.bool (dG step st xs).1/\I'=It (dG step st xs).2/\S'=S:=by
 intro w hI
 refine bQ.2 ?_
 dsimp only[bQ,aC]
 refine Run.call (A:=[]) eF e9 (by simpa using hI) (f4 hcb h hok) fun v' I' S' w'=>?_
 rintro ⟨rfl,rfl,rfl⟩ _ hI
 refine et ?_
 have he:=dX step xs st 0
 exact ⟨_,_,_,rfl,by simpa using hI,Ext.refl _ _ _,by rw [he.1],by rw [he.2],rfl⟩
end
def jL (g:T) (c:Int) (l:Nat):Bool:=jz g && ((decide (-1<=c) && decide (c<=19)) && decide (l<=6))
mutual
def bC:PF->Int->Int->Bool × Int
 | .mk g c ks,deep,n=>if 60<n+1 ∨ 20<deep then (false,n+1) else if jL g c ks.length=true then bM ks (deep+1) (n+1) else (false,n+1)
def bM:List PF->Int->Int->Bool × Int
 | [],_,n=>(true,n)
 | t::ts,deep,n=>if (bC t deep n).1 then bM ts deep (bC t deep n).2 else (false,(bC t deep n).2)
end
mutual
def iz:PF->Int->Bool
 | .mk g c ks,d=>decide (1<=d) && (jL g c ks.length && ei ks (d - 1))
def ei:List PF->Int->Bool
 | [],_=>true
 | t::ts,d=>iz t d && ei ts d
end
mutual
def cC:PF->Int
 | .mk _ _ ks=>1+bg ks
def bg:List PF->Int
 | []=>0
 | t::ts=>cC t+bg ts
end
def dv (x:PF):Bool:=iz x 20 && decide (cC x<=60)
mutual
theorem gx:∀ t:PF,1<=cC t
 | .mk _ _ ks=>by
  have:=cf ks
  rw [cC]; omega
theorem cf:∀ ts:List PF,0<=bg ts
 | []=>Int.le_refl _
 | t::ts=>by
  have h1:=gx t
  have h2:=cf ts
  rw [bg]; omega
end
mutual
theorem kx:∀ (t:PF) (deep n:Int),(bC t deep n).1=(iz t (21 - deep) && decide (n+cC t<=60))/\((bC t deep n).1=true->(bC t deep n).2=n+cC t)
 | .mk g c ks,deep,n=>by
  have hl:=cf ks
  rw [bC,iz,cC]
  by_cases h1:60<n+1 ∨ 20<deep
  ·rw [if_pos h1]
   refine ⟨?_,fun h=>by cases h⟩
   rcases h1 with h1|h1
   ·rw [decide_eq_false (show ¬ (n+(1+bg ks)<=60) by omega),Bool.and_false]
   ·rw [decide_eq_false (show ¬ (1<=21 - deep) by omega)]; rfl
  ·rw [if_neg h1,decide_eq_true (show 1<=21 - deep by omega),Bool.true_and]
   cases hn:jL g c ks.length with
   | false=>exact ⟨rfl,fun h=>by cases h⟩
   | true=>
    rw [if_pos rfl,Bool.true_and]
    have:=mF ks (deep+1) (n+1)
    rw [show 21 - (deep+1)=21 - deep - 1 by omega] at this
    rw [show n+(1+bg ks)=n+1+bg ks by omega]
    refine ⟨?_,this.2⟩
    rw [this.1]
    cases ks with
    | nil=>rw [show bg []=0 from rfl,decide_eq_true (show n+1+0<=60 by omega)]; rfl
    | cons t ts=>simp
theorem mF:∀ (ts:List PF) (deep n:Int),(bM ts deep n).1=(ei ts (21 - deep) && (ts.isEmpty || decide (n+bg ts<=60)))/\((bM ts deep n).1=true->(bM ts deep n).2=n+bg ts)
 | [],deep,n=>by simp [bM,ei,bg]
 | t::ts,deep,n=>by
  have ht:=kx t deep n
  have hp:=cf ts
  rw [bM,ei,bg,List.isEmpty_cons,Bool.false_or]
  cases h1:(bC t deep n).1 with
  | false=>
   rw [h1] at ht
   have h2:=ht.1
   refine ⟨?_,fun h=>by cases h⟩
   simp only [Bool.false_eq_true,if_false]
   cases hs:iz t (21 - deep) with
   | false=>rfl
   | true=>
    rw [hs,Bool.true_and] at h2
    have:¬ (n+cC t<=60):=of_decide_eq_false h2.symm
    rw [decide_eq_false (show ¬ (n+(cC t+bg ts)<=60) by omega),Bool.and_false]
  | true=>
   rw [h1] at ht
   have h2:=ht.1
   have h3:=ht.2 rfl
   simp only [if_true]
   rw [h3]
   have hs:iz t (21 - deep)=true/\n+cC t<=60:=by
    have:=h2.symm
    simpa using this
   have hl:=mF ts deep (n+cC t)
   rw [show n+(cC t+bg ts)=n+cC t+bg ts by omega]
   refine ⟨?_,hl.2⟩
   rw [hl.1,hs.1,Bool.true_and]
   cases ts with
   | nil=>rw [show bg []=0 from rfl,decide_eq_true (show n+cC t+0<=60 by omega)]; rfl
   | cons u us=>simp
end
theorem pc (t:PF):(bC t 1 0).1=dv t:=by
 rw [(kx t 1 0).1,dv]
 simp
theorem oj:∀ (t:PF) (deep n:Int),n<=60->(bC t deep n).1=true->n<(bC t deep n).2/\(bC t deep n).2<=60:=by
 intro t deep n hn h
 have:=kx t deep n
 rw [this.2 h]
 have h1:=this.1
 rw [h] at h1
 have h2:=h1.symm
 simp at h2
 have:=gx t
 omega
theorem kY (deep:Int):∀ (ks:List PF) (n:Int),dG (fun n t=>(!(bC t deep n).1,(bC t deep n).2)) n ks=(!(bM ks deep n).1,(bM ks deep n).2)
 | [],n=>by simp [dG,bM]
 | t::ts,n=>by
  by_cases h:(bC t deep n).1=true
  ·simp [dG,bM,h,kY deep ts]
  ·simp [dG,bM,h]
mutual
def fT:PF->Int->Int
 | .mk _ _ ks,m=>ch ks 1 m
def ch:List PF->Int->Int->Int
 | [],n,_=>n
 | t::ts,n,m=>if n<=m then ch ts (n+fT t (m - n)) m else n
end
mutual
theorem kR:∀ (t:PF) (m:Int),0<=m->1<=fT t m/\fT t m<=m+1/\(cC t<=m->fT t m=cC t)/\(m<cC t->m<fT t m)
 | .mk g c ks,m,hm=>by
  have h:=mW ks 1 m hm (by omega) (by omega)
  rw [fT,cC]
  exact h
theorem mW:∀ (ts:List PF) (n m:Int),0<=m->1<=n->n<=m+1->1<=ch ts n m/\ch ts n m<=m+1/\(n+bg ts<=m->ch ts n m=n+bg ts)/\(m<n+bg ts->m<ch ts n m)
 | [],n,m,hm,hn,hn2=>by rw [ch,bg]; omega
 | t::ts,n,m,hm,hn,hn2=>by
  have hp:=cf ts
  have hp1:=gx t
  rw [ch,bg]
  split
  ·rename_i hle
   obtain ⟨h1,h2,h3,h4⟩:=kR t (m - n) (by omega)
   obtain ⟨g1,g2,g3,g4⟩:=mW ts (n+fT t (m - n)) m hm (by omega) (by omega)
   refine ⟨g1,g2,fun h=>?_,fun h=>?_⟩
   ·have:=h3 (by omega)
    rw [g3 (by omega)]
    omega
   ·by_cases hc:cC t<=m - n
    ·have:=h3 hc
     exact g4 (by omega)
    ·have:=h4 (by omega)
     exact g4 (by omega)
  ·omega
end
theorem sQ (t:PF):decide (fT t 60<=60)=decide (cC t<=60):=by
 obtain ⟨_,_,h3,h4⟩:=kR t 60 (by omega)
 rw [decide_eq_decide]
 constructor
 ·intro h
  rcases Int.lt_or_le 60 (cC t) with h5|h5
  ·have:=h4 h5; omega
  ·exact h5
 ·intro h
  rw [h3 h]; exact h
section
attribute [local irreducible] Run CondV ah ax
theorem kl:∀ (t:PF) (S:ab) (cs:List Value) (deep n:Int) (bc:Nat),RdF S cs t->0<=deep->deep<=21->0<=n->n<=60->
  Tri Tryz.prog mn [.agg cs.toArray,.int .i64 deep,.pointer (some ⟨bc,0,none⟩)] [bp bc n] S (dN bc S (bC t deep n)):=by
 refine PF.ind fun g c ks ih S cs deep n bc h hd0 hd1 hc0 hc1=>?_
 intro w hI
 obtain ⟨kv,kf,rfl,hg,hc,hks⟩:=RdF.iff.1 h
 simp only [PF.goal,PF.kids,PF.clause] at hg hc hks ⊢
 have hend:∀ {L:List Item} {w':World} {v:Value} (r:Bool × Int),Inv w (aH [bp bc n]) (bp bc r.2::L) S w'->v=.bool r.1->r=bC (.mk g c ks) deep n->
   ∃ v' I' S',Ending.returned v=.returned v'/\Inv w (aH [bp bc n]) I' S' w'/\Ext w.heap.size (aH [bp bc n]) S S'/\dN bc S (bC (.mk g c ks) deep n) v' I' S':=by
  intro L w' v r h1 h2 h3
  subst h3
  exact ⟨_,_,_,rfl,h1.pick [true],Ext.refl _ _ _,h2,rfl,rfl⟩
 refine eG.2 ?_
 dsimp only[eG,ed]
 refine aG hI fun b3 w' hI=>?_
 refine aG hI fun b4 w' hI=>?_
 refine aG hI fun b5 w' hI=>?_
 refine aQ hI 3 fm rfl rfl ?_
 refine cg ?_
 refine aQ hI 0 ar rfl rfl ?_
 refine br (by omega) ?_
 refine cg ?_
 refine dm hI 0 (n:=1) rfl (by rw [ar]; rfl) rfl (Nat.le_of_ble_eq_true rfl) (by simp [Value.cells]; rfl) fun w' hI=>?_
 have hI:Inv w (aH [bp bc n]) [bp bc (n+1),.blk b3 (.cells #[.int .i64 g.kind,.int .i64 g.n,.string g.name,kv,.int .i64 c,kf] aN),.blk b4 (.cells #[.int .i64 deep] cu),.blk b5 (.cells #[.pointer (some ⟨bc,0,none⟩)] bG)] S w':=hI
 have hkl:decide ((6:Int)<(ks.length:Int))=!decide (ks.length<=6):=by
  rw [<- decide_not,decide_eq_decide]; omega
 refine ⟨fun t w'=>t=.bool (decide (60<n+1 ∨ 20<deep) || !jL g c ks.length)/\Inv w (aH [bp bc n]) [bp bc (n+1),.blk b3 (.cells #[.int .i64 g.kind,.int .i64 g.n,.string g.name,kv,.int .i64 c,kf] aN),.blk b4 (.cells #[.int .i64 deep] cu),.blk b5 (.cells #[.pointer (some ⟨bc,0,none⟩)] bG)] S w',?_,?_⟩
 ·refine aQ hI 3 fm rfl rfl ?_
  refine cg ?_
  refine aQ hI 0 ar rfl rfl ?_
  refine cA ?_
  cases h1:decide ((60:Int)<n+1)
  ·have h1:=of_decide_eq_false h1
   refine rpG ?_
   refine aQ hI 2 ar rfl rfl ?_
   refine cA ?_
   cases h2:decide ((20:Int)<deep)
   ·have h2:=of_decide_eq_false h2
    rw [decide_eq_false (fun h=>h.elim h1 h2),Bool.false_or,jL]
    refine rpG ?_
    refine a8 bF ?_
    refine bW hI 1 [_,_,_,_] ac rfl rfl jJ ?_
    refine Run.callPure k9 lp hI (iT hg) fun w' hI=>?_
    refine bv ?_
    cases h3:jz g
    ·refine rpG ?_
     exact ⟨rfl,hI⟩
    refine rpG ?_
    refine aa hI 1 rfl bf ar rfl ?_
    refine Run.callPure dl dq hI (cK _ _ _ S) fun w' hI=>?_
    refine bv ?_
    cases h4:(decide (-1<=c) && decide (c<=19))
    ·refine rpG ?_
     exact ⟨rfl,hI⟩
    refine rpG ?_
    refine aa hI 1 rfl aS aY rfl ?_
    refine az hks aK ?_
    refine cA ?_
    rw [hkl]
    refine rpG ?_
    exact ⟨rfl,hI⟩
   ·refine rpG ?_
    rw [decide_eq_true (.inr (of_decide_eq_true h2)),Bool.true_or]
    exact ⟨rfl,hI⟩
  ·refine rpG ?_
   rw [decide_eq_true (.inl (of_decide_eq_true h1)),Bool.true_or]
   exact ⟨rfl,hI⟩
 intro q _ _ _ _ _ _ _ _ _ _ _ _ _ _ _ _ _ _ _ _ _ _ _ _ _ w'
 rintro ⟨rfl,hI⟩
 refine ak (fun hb=>?_) (fun hb=>?_)
 ·refine hend (false,n+1) hI rfl ?_
  rw [bC]
  by_cases h1:60<n+1 ∨ 20<deep
  ·rw [if_pos h1]
  ·rw [decide_eq_false h1,Bool.false_or,Bool.not_eq_true'] at hb
   rw [if_neg h1,hb]
   rfl
 ·rw [Bool.or_eq_false_iff,Bool.not_eq_false'] at hb
  have hsc:bC (.mk g c ks) deep n=bM ks (deep+1) (n+1):=by
   rw [bC,if_neg (of_decide_eq_false hb.1),if_pos hb.2]
  have hn60:=of_decide_eq_false hb.1
  refine aa hI 1 rfl aS aY rfl ?_
  refine lu ?_
  have hcb:Cb Tryz.prog kg Tryz.f48 [.pointer (some ⟨b4,0,none⟩),.pointer (some ⟨b5,0,none⟩)] S
    (fun c:Int=>[bp bc c,.blk b4 (.cells #[.int .i64 deep] cu),.blk b5 (.cells #[.pointer (some ⟨bc,0,none⟩)] bG)]) (fun c=>0<=c/\c<=60)
    (fun c t=>(!(bC t (deep+1) c).1,(bC t (deep+1) c).2)) (fun v x=>∃ cs,v=.agg cs.toArray/\RdF S cs x) ks:=by
   refine ⟨iB,iJ,fun st x _ hst hf=>?_,fun st x v hx hst=>?_⟩
   ·have:=oj x (deep+1) st hst.2 (by simpa using hf)
    omega
   ·rintro ⟨cs,rfl,hcs⟩ w1 hI
    have hl:=hcs.length
    refine dT.2 ?_
    dsimp only[dT,ed]
    refine aG hI fun b w' hI=>?_
    refine ao hI 3 aD rfl (by simpa [Value.cells] using hl) ?_
    refine aQ hI 1 ar rfl rfl ?_
    refine br (by omega) ?_
    refine aQ hI 2 fm rfl rfl ?_
    have hI:=hI.perm (M:=[.blk b4 (.cells #[.int .i64 deep] cu),.blk b5 (.cells #[.pointer (some ⟨bc,0,none⟩)] bG),.blk b (.cells (Value.agg cs.toArray).cells aN)]++[bp bc st])
     (List.perm_append_comm (l₁:=[_,_,_]) (l₂:=[bp bc st]))
    refine Run.call e7 fa hI (ih x hx S cs (deep+1) st bc hcs (by omega) (by omega) hst.1 hst.2) fun v' I' S' w'=>?_
    rintro ⟨rfl,rfl,rfl⟩ _ hI
    refine bv ?_
    have hI:=(hI.perm (M:=[bp bc (bC x (deep+1) st).2]++[.blk b4 (.cells #[.int .i64 deep] cu),.blk b5 (.cells #[.pointer (some ⟨bc,0,none⟩)] bG),.blk b (.cells (Value.agg cs.toArray).cells aN)])
     List.perm_append_comm).pick [true,true,true,false]
    exact ⟨_,_,_,rfl,hI,Ext.refl _ _ _,rfl,rfl,rfl⟩
  have hI:=hI.perm (M:=[.blk b3 (.cells #[.int .i64 g.kind,.int .i64 g.n,.string g.name,kv,.int .i64 c,kf] aN)]++[bp bc (n+1),.blk b4 (.cells #[.int .i64 deep] cu),.blk b5 (.cells #[.pointer (some ⟨bc,0,none⟩)] bG)]) (List.Perm.swap _ _ _)
  refine Run.call dL dA hI (em hcb hks ⟨by omega,by omega⟩) fun v' I' S' w'=>?_
  rintro ⟨rfl,rfl,rfl⟩ _ hI
  refine bv ?_
  rw [kY] at hI ⊢
  have hI:=hI.perm (M:=[bp bc (bM ks (deep+1) (n+1)).2,.blk b3 (.cells #[.int .i64 g.kind,.int .i64 g.n,.string g.name,kv,.int .i64 c,kf] aN),.blk b4 (.cells #[.int .i64 deep] cu),.blk b5 (.cells #[.pointer (some ⟨bc,0,none⟩)] bG)]) (List.Perm.swap _ _ _)
  exact hend (bM ks (deep+1) (n+1)) hI (by simp) hsc.symm
theorem ii {t:PF} {S:ab} {cs:List Value} (h:RdF S cs t):Pure Tryz.prog lJ [.agg cs.toArray] S (.bool (dv t)):=by
 intro w hI
 have hl:=h.length
 refine eg.2 ?_
 dsimp only[eg,am]
 refine aG hI fun b1 w' hI=>?_
 refine cm hI sP fun b2 w' hI=>?_
 refine dm hI 1 (n:=1) rfl (by rw [ar]; rfl) rfl (Nat.le_of_ble_eq_true rfl) (by simp [Value.cells]; rfl) fun w' hI=>?_
 refine ao hI 0 aD rfl (by simpa [Value.cells] using hl) ?_
 refine Run.call (A:=[_]) (I:=[bp b2 0]) e7 fa hI (kl t S cs 1 0 b2 h (by omega) (by omega) (by omega) (by omega)) fun v' I' S' w'=>?_
 rintro ⟨rfl,rfl,rfl⟩ _ hI
 exact ae hI (by rw [pc])
theorem lG:∀ (t:PF) (S:ab) (cs:List Value) (d:Int),RdF S cs t->wF t<=1048576->-100<=d->d<=100->Pure Tryz.prog nN [.agg cs.toArray,.int .i64 d] S (.bool (iz t d)):=by
 refine PF.ind fun g c ks ih S cs d h hw hd0 hd1=>?_
 intro w hI
 obtain ⟨kv,kf,rfl,hg,hc,hks⟩:=RdF.iff.1 h
 simp only [PF.goal,PF.kids,PF.clause] at hg hc hks ⊢
 have hlen:=hks.le
 simp only [maxLen] at hlen
 rw [wF] at hw
 rw [iz]
 refine fL.2 ?_
 dsimp only[fL,aC]
 refine aG hI fun b2 w' hI=>?_
 have hI:Inv w [] [.blk b2 (.cells #[.int .i64 g.kind,.int .i64 g.n,.string g.name,kv,.int .i64 c,kf] aN)] S w':=hI
 have hkl:decide ((6:Int)<(ks.length:Int))=!decide (ks.length<=6):=by
  rw [<- decide_not,decide_eq_decide]; omega
 have hcl:decide (c < -1)=!decide (-1<=c):=by rw [<- decide_not,decide_eq_decide]; omega
 have hcg:decide ((20:Int)<=c)=!decide (c<=19):=by rw [<- decide_not,decide_eq_decide]; omega
 have hdl:decide (d<1)=!decide (1<=d):=by rw [<- decide_not,decide_eq_decide]; omega
 refine ⟨fun t w'=>t=.bool (!(decide (1<=d) && jL g c ks.length))/\Inv w [] [.blk b2 (.cells #[.int .i64 g.kind,.int .i64 g.n,.string g.name,kv,.int .i64 c,kf] aN)] S w',?_,?_⟩
 ·refine aZ ?_
  rw [hdl,jL]
  cases h1:decide (1<=d)
  ·refine rpG ?_
   exact ⟨rfl,hI⟩
  refine rpG ?_
  refine a8 bF ?_
  refine bW hI 0 [_,_,_,_] ac rfl rfl jJ ?_
  refine Run.callPure lg kz hI (ji hg (by omega)) fun w' hI=>?_
  refine bv ?_
  cases h3:jz g
  ·refine rpG ?_
   exact ⟨rfl,hI⟩
  refine rpG ?_
  refine aa hI 0 rfl bf ar rfl ?_
  refine aZ ?_
  rw [hcl]
  cases h4:decide (-1<=c)
  ·refine rpG ?_
   exact ⟨rfl,hI⟩
  refine rpG ?_
  refine aa hI 0 rfl bf ar rfl ?_
  refine et ?_
  rw [hcg]
  cases h5:decide (c<=19)
  ·refine rpG ?_
   exact ⟨rfl,hI⟩
  refine rpG ?_
  refine aa hI 0 rfl aS aY rfl ?_
  refine az hks aK ?_
  refine cA ?_
  rw [hkl]
  refine rpG ?_
  exact ⟨rfl,hI⟩
 intro q _ _ _ _ _ _ _ _ _ _ _ _ _ _ _ _ _ _ _ _ _ _ _ w'
 rintro ⟨rfl,hI⟩
 refine ak (fun hb=>ae hI ?_) (fun hb=>?_)
 ·rw [Bool.not_eq_true'] at hb
  rw [<- Bool.and_assoc,hb]; rfl
 rw [Bool.not_eq_false',Bool.and_eq_true] at hb
 rw [hb.1,hb.2,Bool.true_and,Bool.true_and]
 refine ⟨fun i w'=>∃ k:Nat,k<=ks.length/\i=.int .i64 k/\ei (ks.drop k) (d - 1)=ei ks (d - 1)/\Inv w [] [.blk b2 (.cells #[.int .i64 g.kind,.int .i64 g.n,.string g.name,kv,.int .i64 c,kf] aN)] S w',
  fun i _=>ks.length - (intOf i).toNat,⟨0,Nat.zero_le _,rfl,rfl,hI⟩,?_⟩
 intro i _ _ _ _ _ _ _ _ _ _ _ _ _ _ _ _ _ w'
 rintro ⟨k,hk,rfl,hrel,hI⟩
 refine aa hI 0 rfl aS aY rfl ?_
 refine az hks aK ?_
 refine aZ ?_
 refine aP (fun hki=>?_) (fun hki=>?_)
 ·have hk':k<ks.length:=by omega
  have hm:=List.getElem_mem hk'
  have hwm:=nV hm
  rw [List.drop_eq_getElem_cons hk',ei] at hrel
  refine aa hI 0 rfl aS aY rfl ?_
  refine bm hI hks aK aD hk' (fun _ _=>RdF.length) fun ds hds=>?_
  refine fG (by omega) ?_
  have hge:1<=d:=of_decide_eq_true hb.1
  refine Run.callPure fS fO hI (ih _ hm S ds (d - 1) hds (by omega) (by omega) (by omega)) fun w' hI=>?_
  refine bv ?_
  refine ak (fun hne=>ae hI ?_) (fun he=>?_)
  ·rw [Bool.not_eq_true'] at hne
   rw [<- hrel,hne]; rfl
  ·rw [Bool.not_eq_false'] at he
   rw [he,Bool.true_and] at hrel
   refine br (by omega) ?_
   exact ⟨⟨k+1,hk',rfl,hrel,hI⟩,by simp [intOf]; omega⟩
 ·have:k=ks.length:=by omega
  subst this
  exact ae hI (by rw [<- hrel,List.drop_length]; rfl)
theorem mu:∀ (t:PF) (S:ab) (cs:List Value) (m:Int),RdF S cs t->0<=m->m<=1000000->Pure Tryz.prog oe [.agg cs.toArray,.int .i64 m] S (.int .i64 (fT t m)):=by
 refine PF.ind fun g c ks ih S cs m h hm0 hm1=>?_
 intro w hI
 obtain ⟨kv,kf,rfl,hg,hc,hks⟩:=RdF.iff.1 h
 simp only [PF.goal,PF.kids,PF.clause] at hg hc hks ⊢
 have hlen:=hks.le
 simp only [maxLen] at hlen
 rw [fT]
 refine gq.2 ?_
 dsimp only[gq,aC]
 refine aG hI fun b2 w' hI=>?_
 have hI:Inv w [] [.blk b2 (.cells #[.int .i64 g.kind,.int .i64 g.n,.string g.name,kv,.int .i64 c,kf] aN)] S w':=hI
 refine ⟨fun i t w'=>∃ (k:Nat) (n:Int),k<=ks.length/\i=.int .i64 k/\t=.int .i64 n/\1<=n/\n<=m+1/\ch (ks.drop k) n m=ch ks 1 m/\Inv w [] [.blk b2 (.cells #[.int .i64 g.kind,.int .i64 g.n,.string g.name,kv,.int .i64 c,kf] aN)] S w',
  fun i _ _=>ks.length - (intOf i).toNat,⟨0,1,Nat.zero_le _,rfl,rfl,by omega,by omega,rfl,hI⟩,?_⟩
 intro i _ _ t _ _ _ _ _ _ _ _ _ _ _ _ _ _ _ _ _ _ _ _ _ w'
 rintro ⟨k,n,hk,rfl,rfl,hn0,hn1,hrel,hI⟩
 refine ⟨fun q w'=>q=.bool (decide (k<ks.length) && decide (n<=m))/\Inv w [] [.blk b2 (.cells #[.int .i64 g.kind,.int .i64 g.n,.string g.name,kv,.int .i64 c,kf] aN)] S w',?_,?_⟩
 ·refine aa hI 0 rfl aS aY rfl ?_
  refine az hks aK ?_
  refine aZ ?_
  have el:decide ((k:Int)<(ks.length:Int))=decide (k<ks.length):=by rw [decide_eq_decide]; omega
  rw [el]
  cases h1:decide (k<ks.length)
  ·refine rpG ?_
   exact ⟨rfl,hI⟩
  refine rpG ?_
  refine c7 ?_
  refine rpG ?_
  exact ⟨rfl,hI⟩
 intro q _ _ _ _ _ _ _ _ _ w'
 rintro ⟨rfl,hI⟩
 refine ak (fun hb=>?_) (fun hb=>?_)
 ·rw [Bool.and_eq_true,decide_eq_true_eq,decide_eq_true_eq] at hb
  obtain ⟨hk',hnm⟩:=hb
  have hm:=List.getElem_mem hk'
  rw [List.drop_eq_getElem_cons hk',ch,if_pos hnm] at hrel
  obtain ⟨s1,s2,_,_⟩:=kR ks[k] (m - n) (by omega)
  refine aa hI 0 rfl aS aY rfl ?_
  refine bm hI hks aK aD hk' (fun _ _=>RdF.length) fun ds hds=>?_
  refine fG (by omega) ?_
  refine Run.callPure gT ir hI (ih _ hm S ds (m - n) hds (by omega) (by omega)) fun w' hI=>?_
  refine br (by omega) ?_
  refine br (by omega) ?_
  exact ⟨⟨k+1,_,hk',rfl,rfl,by omega,by omega,hrel,hI⟩,by simp [intOf]; omega⟩
 ·refine ae hI ?_
  rw [<- hrel]
  by_cases hk':k<ks.length
  ·rw [decide_eq_true hk',Bool.true_and] at hb
   rw [List.drop_eq_getElem_cons hk',ch,if_neg (of_decide_eq_false hb)]
  ·have:k=ks.length:=by omega
   subst this
   rw [List.drop_length,ch]
theorem gA {t:PF} {S:ab} {cs:List Value} (h:RdF S cs t) (hw:wF t<=1048576):Pure Tryz.prog kW [.agg cs.toArray] S (.bool (dv t)):=by
 intro w hI
 have hl:=h.length
 refine ej.2 ?_
 dsimp only[ej,am]
 refine aG hI fun b1 w' hI=>?_
 refine ao hI 0 aD rfl (by simpa [Value.cells] using hl) ?_
 refine Run.callPure fS fO hI (lG t S cs 20 h hw (by omega) (by omega)) fun w' hI=>?_
 rw [dv]
 cases hs:iz t 20
 ·refine rpG ?_
  exact ae hI rfl
 refine rpG ?_
 refine ao hI 0 aD rfl (by simpa [Value.cells] using hl) ?_
 refine Run.callPure gT ir hI (mu t S cs 60 h (by omega) (by omega)) fun w' hI=>?_
 refine c7 ?_
 rw [sQ]
 refine rpG ?_
 exact ae hI rfl
end
end
section
open Go Go.RowKit
def byS (c:Int):Bs:=if 0<=c then [32,98,121,32]++(l6 c).getD [] else []
mutual
def lnF:PF->Bs->Bs
 | .mk g c ks,ind=>ind++tx g++byS c++[10]++ig ks (ind++[32])
def ig:List PF->Bs->Bs
 | [],_=>[]
 | k::ks,ind=>lnF k ind++ig ks ind
end
def rA (x:PF):Bs:=if dv x=true then lnF x [] else []
mutual
def p6:PF->Prop
 | .mk g c ks=>bz g=true/\(-1<=c/\c<=19)/\kN ks
def kN:List PF->Prop
 | []=>True
 | k::ks=>p6 k/\kN ks
end
theorem iP:∀ {ks:List PF},kN ks->∀ k∈ks,p6 k
 | k::ks,h,x,hx=>by
  rcases List.mem_cons.1 hx with rfl|hx
  ·exact h.1
  ·exact iP h.2 x hx
mutual
theorem rh:∀ (x:PF) (d:Int),iz x d=true->p6 x
 | .mk g c ks,d,h=>by
  simp only [iz,jL,Bool.and_eq_true,decide_eq_true_eq] at h
  have hg:=h.2.1.1
  rw [jz,Bool.and_eq_true] at hg
  exact ⟨hg.1,h.2.1.2.1,ox ks _ h.2.2⟩
theorem ox:∀ (xs:List PF) (d:Int),ei xs d=true->kN xs
 | [],_,_=>trivial
 | x::xs,d,h=>by
  simp only [ei,Bool.and_eq_true] at h
  exact ⟨rh x d h.1,ox xs d h.2⟩
end
mutual
def dpF:PF->Nat
 | .mk _ _ ks=>1+fx ks
def fx:List PF->Nat
 | []=>0
 | k::ks=>max (dpF k) (fx ks)
end
mutual
theorem sE:∀ (x:PF) (d:Int),iz x d=true->(dpF x:Int)<=d
 | .mk g c ks,d,h=>by
  simp only [iz,Bool.and_eq_true,decide_eq_true_eq] at h
  have:=rb ks _ h.2.2
  simp only [dpF]
  omega
theorem rb:∀ (xs:List PF) (d:Int),ei xs d=true->(fx xs:Int)<=max d 0
 | [],_,_=>by simp only [fx]; omega
 | x::xs,d,h=>by
  simp only [ei,Bool.and_eq_true] at h
  have h1:=sE x d h.1
  have h2:=rb xs d h.2
  simp only [fx]
  omega
end
theorem no {c:Int} (h:-1<=c/\c<=19):(byS c).length<=8/\noNl (byS c):=by
 unfold byS
 split
 ·obtain ⟨r,hr,h1,h2,h3⟩:=ie (n:=c) (by omega)
  rw [hr]
  exact ⟨by simp only [Option.getD_some,List.length_append,List.length_cons,List.length_nil]; omega,(noNl.lit (by decide)).app h3⟩
 ·exact ⟨by simp,by intro b hb; simp at hb⟩
theorem lI {t:T} (h:bz t=true):0<(tx t).length/\(tx t).length<=2400/\noNl (tx t):=(lB h).2
mutual
theorem q8:∀ (x:PF) (ind:Bs),p6 x->((lnF x ind).length:Int)<=cC x * (ind.length+dpF x+2500)
 | .mk g c ks,ind,h=>by
  obtain ⟨h1,h2,h3⟩:=h
  have ht:=lI h1
  have hb:=(no h2).1
  have hk:=ot ks (ind++[32]) h3
  have hp:=cf ks
  simp only [lnF,cC,dpF,List.length_append,List.length_cons,List.length_nil] at hk ⊢
  have e:(1+bg ks) * ((ind.length:Int)+((1+fx ks:Nat):Int)+2500)=((ind.length:Int)+((1+fx ks:Nat):Int)+2500)+bg ks * ((ind.length:Int)+((1+fx ks:Nat):Int)+2500):=by
   rw [Int.add_mul,Int.one_mul]
  rw [e]
  have e2:bg ks * (((ind.length+(0+1):Nat):Int)+(fx ks:Int)+2500)=bg ks * ((ind.length:Int)+((1+fx ks:Nat):Int)+2500):=by
   congr 1
   omega
  rw [e2] at hk
  generalize bg ks * ((ind.length:Int)+((1+fx ks:Nat):Int)+2500)=Y at hk ⊢
  omega
theorem ot:∀ (xs:List PF) (ind:Bs),kN xs->((ig xs ind).length:Int)<=bg xs * (ind.length+fx xs+2500)
 | [],_,_=>by simp [ig,bg]
 | x::xs,ind,h=>by
  have h1:=q8 x ind h.1
  have h2:=ot xs ind h.2
  have p1:=gx x
  have p2:=cf xs
  simp only [ig,bg,fx,List.length_append]
  have a1:cC x * ((ind.length:Int)+(dpF x:Int)+2500)<=cC x * ((ind.length:Int)+((max (dpF x) (fx xs):Nat):Int)+2500):=Int.mul_le_mul_of_nonneg_left (by omega) (by omega)
  have a2:bg xs * ((ind.length:Int)+(fx xs:Int)+2500)<=bg xs * ((ind.length:Int)+((max (dpF x) (fx xs):Nat):Int)+2500):=Int.mul_le_mul_of_nonneg_left (by omega) p2
  rw [Int.add_mul]
  omega
end
theorem mE {x:PF} (h:dv x=true):p6 x/\(lnF x []).length<=200000:=by
 simp only [dv,Bool.and_eq_true,decide_eq_true_eq] at h
 have ho:=rh x 20 h.1
 have hd:=sE x 20 h.1
 have hl:=q8 x [] ho
 refine ⟨ho,?_⟩
 have h1:cC x * ((([]:Bs).length:Int)+(dpF x:Int)+2500)<=60 * 2520:=by
  refine Int.le_trans (Int.mul_le_mul_of_nonneg_right h.2 (by simp; omega)) ?_
  refine Int.mul_le_mul_of_nonneg_left (by simp; omega) (by omega)
 omega
end
section
open Go Go.RowKit
section
variable {S:ab}
attribute [local irreducible] Run CondV ah ax
theorem nw {t:T} {cs:List Value} (hv:bz t=true) (h:RdT S cs t):Pure Tryz.prog k4 [.agg cs.toArray] S (.string (st (tx t))):=by
 obtain ⟨h1,h2,h3,_⟩:=lB hv
 exact (q7 961 960 (by omega) (by omega)).1 t (tx t) S cs h1 (by omega) h
theorem mU (ks:List PF) (ind:Bs) (j:Nat) (h:j<ks.length):ig (ks.drop j) ind=lnF ks[j] ind++ig (ks.drop (j+1)) ind:=by
 rw [List.drop_eq_getElem_cons h,ig]
theorem mv:∀ (x:PF) (S:ab) (cs:List Value) (ind:Bs),p6 x->RdF S cs x->(lnF x ind).length<=1000000->Pure Tryz.prog om [.agg cs.toArray,.string (st ind)] S (.string (st (lnF x ind))):=by
 refine PF.ind fun g c ks ih S cs ind ho h hl=>?_
 intro w hI
 obtain ⟨kv,kk,rfl,hg,hc,hks⟩:=RdF.iff.1 h
 simp only [PF.goal,PF.clause,PF.kids] at hg hc hks ⊢
 obtain ⟨hv,hcl,hok⟩:=ho
 have hgo:kN ks:=hok
 have ht:=lI hv
 have hb:=(no hcl).1
 rw [lnF] at hl ⊢
 simp only [List.length_append,List.length_cons,List.length_nil] at hl
 refine gz.2 ?_
 dsimp only[gz,aC]
 refine aG hI fun b2 w' hI=>?_
 have hI:Inv w [] [.blk b2 (.cells #[.int .i64 g.kind,.int .i64 g.n,.string g.name,kv,.int .i64 c,kk] aN)] S w':=hI
 refine a8 bF ?_
 refine bW hI 0 [.int .i64 g.kind,.int .i64 g.n,.string g.name,kv] ac rfl rfl jJ ?_
 refine Run.callPure bP bN hI (nw hv hg) fun w' hI=>?_
 refine av (by omega) ?_
 refine ⟨fun v w'=>v=.string (st (ind++tx g++byS c))/\Inv w [] [.blk b2 (.cells #[.int .i64 g.kind,.int .i64 g.n,.string g.name,kv,.int .i64 c,kk] aN)] S w',?_,?_⟩
 ·refine aa hI 0 rfl bf ar rfl ?_
  refine et ?_
  refine aP (fun h0=>?_) (fun h0=>?_)
  ·refine av (b:=[32,98,121,32]) (by simp only [List.length_append,List.length_cons,List.length_nil]; omega) ?_
   refine aa hI 0 rfl bf ar rfl ?_
   obtain ⟨r,hr,hr1,hr2,_⟩:=ie (n:=c) (by omega)
   have hr0:=hr
   unfold l6 at hr
   rw [if_neg (by omega)] at hr
   obtain ⟨m,rfl⟩:∃ m:Nat,c=(m:Int):=⟨c.toNat,by omega⟩
   rw [Int.toNat_natCast] at hr
   refine Run.callPure eL eA hI (dW hr (by omega) (by omega)) fun w' hI=>?_
   refine av (by simp only [List.length_append,List.length_cons,List.length_nil]; omega) ?_
   exact ⟨by rw [byS,if_pos (by omega),hr0]; simp,hI⟩
  ·exact ⟨by rw [byS,if_neg (by omega),List.append_nil],hI⟩
 intro t5 _ _ _ _ _ _ _ _ _ w'
 rintro ⟨rfl,hI⟩
 refine av (b:=[10]) (by simp only [List.length_append,List.length_cons,List.length_nil]; omega) ?_
 have hkl:=hks.le
 simp only [maxLen] at hkl
 refine ⟨fun i v w'=>∃ (j:Nat) (out:Bs),j<=ks.length/\i=.int .i64 (j:Int)/\v=.string (st out)/\out++ig (ks.drop j) (ind++[32])=ind++tx g++byS c++[10]++ig ks (ind++[32])/\
   Inv w [] [.blk b2 (.cells #[.int .i64 g.kind,.int .i64 g.n,.string g.name,kv,.int .i64 c,kk] aN)] S w',fun i _ _=>ks.length - (intOf i).toNat,⟨0,_,Nat.zero_le _,rfl,rfl,rfl,hI⟩,?_⟩
 intro t6 _ _ t5 _ _ _ _ _ _ _ _ _ _ _ _ _ _ _ w'
 rintro ⟨j,out,hj,rfl,rfl,hrel,hI⟩
 have hrl:=congrArg List.length hrel
 simp only [List.length_append,List.length_cons,List.length_nil] at hrl
 refine aa hI 0 rfl aS aY rfl ?_
 refine az hks aK ?_
 refine aZ ?_
 refine aP (fun hji=>?_) (fun hji=>?_)
 ·have hj':j<ks.length:=by omega
  have hm:=List.getElem_mem hj'
  have hst:=mU ks (ind++[32]) j hj'
  rw [hst,List.length_append] at hrl
  refine aa hI 0 rfl aS aY rfl ?_
  refine bm hI hks aK aD hj' (fun _ _=>RdF.length) fun es hes=>?_
  refine av (b:=[32]) (by simp only [List.length_cons,List.length_nil]; omega) ?_
  refine Run.callPure hO gZ hI (ih _ hm S es (ind++[32]) (iP hgo _ hm) hes (by omega)) fun w' hI=>?_
  refine av (by omega) ?_
  refine br (by omega) ?_
  refine ⟨⟨j+1,_,hj',rfl,rfl,?_,hI⟩,by simp only [intOf,Int.toNat_natCast]; omega⟩
  rw [<- hrel,hst,List.append_assoc]
 ·have:j=ks.length:=by omega
  subst this
  rw [List.drop_length,ig,List.append_nil] at hrel
  exact ae hI (by rw [hrel])
theorem kh:∀ (x:PF) (S:ab) (cs:List Value) (ind:Bs),p6 x->TabS S->RdF S cs x->(lnF x ind).length<=1000000->Pure Tryz.prog mj [.agg cs.toArray,.string (st ind)] S (.string (st (lnF x ind))):=by
 refine PF.ind fun g c ks ih S cs ind ho hT h hl=>?_
 intro w hI
 obtain ⟨kv,kk,rfl,hg,hc,hks⟩:=RdF.iff.1 h
 simp only [PF.goal,PF.clause,PF.kids] at hg hc hks ⊢
 obtain ⟨hv,hcl,hok⟩:=ho
 have hgo:kN ks:=hok
 have ht:=lI hv
 have hb:=(no hcl).1
 rw [lnF] at hl ⊢
 simp only [List.length_append,List.length_cons,List.length_nil] at hl
 refine eq.2 ?_
 dsimp only[eq,aC]
 refine aG hI fun b2 w' hI=>?_
 have hI:Inv w [] [.blk b2 (.cells #[.int .i64 g.kind,.int .i64 g.n,.string g.name,kv,.int .i64 c,kk] aN)] S w':=hI
 refine a8 bF ?_
 refine bW hI 0 [.int .i64 g.kind,.int .i64 g.n,.string g.name,kv] ac rfl rfl jJ ?_
 refine Run.callPure cc cd hI (oN hv hT hg) fun w' hI=>?_
 refine av (by omega) ?_
 refine ⟨fun v w'=>v=.string (st (ind++tx g++byS c))/\Inv w [] [.blk b2 (.cells #[.int .i64 g.kind,.int .i64 g.n,.string g.name,kv,.int .i64 c,kk] aN)] S w',?_,?_⟩
 ·refine aa hI 0 rfl bf ar rfl ?_
  refine et ?_
  refine aP (fun h0=>?_) (fun h0=>?_)
  ·refine aa hI 0 rfl bf ar rfl ?_
   obtain ⟨r,hr,hr1,hr2,_⟩:=ie (n:=c) (by omega)
   refine Run.callPure dp dk hI (lE hT (by omega) hr) fun w' hI=>?_
   refine av (a:=[32,98,121,32]) (by simp only [List.length_cons,List.length_nil]; omega) ?_
   refine av (by simp only [List.length_append,List.length_cons,List.length_nil]; omega) ?_
   exact ⟨by rw [byS,if_pos (by omega),hr]; simp,hI⟩
  ·exact ⟨by rw [byS,if_neg (by omega),List.append_nil],hI⟩
 intro t5 _ _ _ _ _ _ _ _ _ w'
 rintro ⟨rfl,hI⟩
 refine av (b:=[10]) (by simp only [List.length_append,List.length_cons,List.length_nil]; omega) ?_
 have hkl:=hks.le
 simp only [maxLen] at hkl
 refine aa hI 0 rfl aS aY rfl ?_
 refine az hks aK ?_
 refine ⟨fun i v w'=>∃ (j:Nat) (out:Bs),j<=ks.length/\i=.int .i64 (j:Int)/\v=.string (st out)/\out++ig (ks.drop j) (ind++[32])=ind++tx g++byS c++[10]++ig ks (ind++[32])/\
   Inv w [] [.blk b2 (.cells #[.int .i64 g.kind,.int .i64 g.n,.string g.name,kv,.int .i64 c,kk] aN)] S w',fun i _ _=>ks.length - (intOf i).toNat,⟨0,_,Nat.zero_le _,rfl,rfl,rfl,hI⟩,?_⟩
 intro t27 _ t5 _ _ _ _ _ _ _ _ _ _ w'
 rintro ⟨j,out,hj,rfl,rfl,hrel,hI⟩
 have hrl:=congrArg List.length hrel
 simp only [List.length_append,List.length_cons,List.length_nil] at hrl
 refine aZ ?_
 refine aP (fun hji=>?_) (fun hji=>?_)
 ·have hj':j<ks.length:=by omega
  have hm:=List.getElem_mem hj'
  have hst:=mU ks (ind++[32]) j hj'
  rw [hst,List.length_append] at hrl
  refine bm hI hks aK aD hj' (fun _ _=>RdF.length) fun es hes=>?_
  have he6:=hes.length
  refine cm hI fk fun b7 w' hI=>?_
  refine cB hI 1 rfl aD (by simpa using he6) rfl (by simpa using hes.one) fun w' hI=>?_
  refine ao hI 1 aD rfl (by simpa using he6) ?_
  refine av (b:=[32]) (by simp only [List.length_cons,List.length_nil]; omega) ?_
  refine Run.callPure fe eo hI (ih _ hm S es (ind++[32]) (iP hgo _ hm) hT hes (by omega)) fun w' hI=>?_
  refine av (by omega) ?_
  refine br (by omega) ?_
  refine ⟨⟨j+1,_,hj',rfl,rfl,?_,hI.pick [true,false]⟩,by simp only [intOf,Int.toNat_natCast]; omega⟩
  rw [<- hrel,hst,List.append_assoc]
 ·have:j=ks.length:=by omega
  subst this
  rw [List.drop_length,ig,List.append_nil] at hrel
  exact ae hI (by rw [hrel])
theorem mh {x:PF} {cs:List Value} (h:RdF S cs x) (hw:wF x<=1048576):Pure Tryz.prog kp [.agg cs.toArray] S (.string (st (rA x))):=by
 intro w hI
 have hl6:=h.length
 refine dP.2 ?_
 dsimp only[dP,am]
 refine aG hI fun b1 w' hI=>?_
 have hI:Inv w [] [.blk b1 (.cells cs.toArray aN)] S w':=hI
 refine ao hI 0 aD rfl (by simpa using hl6) ?_
 refine Run.callPure ke km hI (gA h hw) fun w' hI=>?_
 refine bv ?_
 cases hv:dv x with
 | false=>
  refine ak (fun _=>?_) (fun hb=>by cases hb)
  exact ae hI (by rw [rA,hv]; rfl)
 | true=>
  refine ak (fun hb=>by cases hb) (fun _=>?_)
  obtain ⟨ho,hl⟩:=mE hv
  refine ao hI 0 aD rfl (by simpa using hl6) ?_
  refine Run.callPure hO gZ hI (mv x S cs [] ho h (by omega)) fun w' hI=>?_
  exact ae hI (by rw [rA,if_pos hv])
theorem mf {x:PF} {cs:List Value} (h:RdF S cs x) (hT:TabS S):Pure Tryz.prog j9 [.agg cs.toArray] S (.string (st (rA x))):=by
 intro w hI
 have hl6:=h.length
 refine dx.2 ?_
 dsimp only[dx,am]
 refine aG hI fun b1 w' hI=>?_
 have hI:Inv w [] [.blk b1 (.cells cs.toArray aN)] S w':=hI
 refine ao hI 0 aD rfl (by simpa using hl6) ?_
 refine Run.callPure kn kj hI (ii h) fun w' hI=>?_
 refine bv ?_
 cases hv:dv x with
 | false=>
  refine ak (fun _=>?_) (fun hb=>by cases hb)
  exact ae hI (by rw [rA,hv]; rfl)
 | true=>
  refine ak (fun hb=>by cases hb) (fun _=>?_)
  obtain ⟨ho,hl⟩:=mE hv
  refine ao hI 0 aD rfl (by simpa using hl6) ?_
  refine Run.callPure fe eo hI (kh x S cs [] ho hT h (by omega)) fun w' hI=>?_
  exact ae hI (by rw [rA,if_pos hv])
end
end
section
open Go Go.RowKit
section
attribute [local irreducible] Run CondV ah ax
def ui (S:ab) (x:PF) (v:Value):Prop:=∃ cs,v=.agg cs.toArray/\RdF S cs x
theorem Run.toPf {w w0:World} {X:List Nat} {L:List Item} {S:ab} {K:Value->World->Prop} {x:PF} {cs:List Value} (hI:Inv w0 X L S w) (h:RdF S cs x) (hw:wF x<=1048576)
  (hk:∀ cs' S' w',Sle S S'->RdF S' cs' x->Inv w0 X L S' w'->K (.agg cs'.toArray) w'):Run Tryz.prog (bB (.func (.func ey) #[] #[]) [.agg cs.toArray]) w K:=by
 refine Run.call0 hY hH hI (lX _ S _ h hw) fun v' I' S' w'=>?_
 rintro ⟨rfl,cs',M,rfl,rfl,hT⟩ _ hI
 obtain ⟨S2,hI,hle,hins,_⟩:=Inv.publishAll M hI
 exact hk _ _ _ hle (hT.rd hins) hI
theorem n9 {x:PF} {S:ab} {cs:List Value} (hT:TabS S) (g:RdF S cs x):Pure Tryz.prog au [.agg cs.toArray] S (.bool true):=by
 intro w hI
 have hl6:=g.length
 refine bR.2 ?_
 dsimp only[bR,am]
 refine aG hI fun b1 w' hI=>?_
 have hI:Inv w [] [.blk b1 (.cells cs.toArray dI)] S w':=hI
 refine ao hI 0 cR rfl (by simpa using hl6) ?_
 refine Run.callPure gG gi hI (mi x S _ _ g (by omega) (by omega)) fun w' hI=>?_
 refine aZ ?_
 refine aP (fun _=>ae hI rfl) (fun hsz=>?_)
 have hwx:=uh x 1048576 (by omega) (by omega)
 have hwx:wF x<=1048576:=by omega
 refine ao hI 0 cR rfl (by simpa using hl6) ?_
 refine Run.toPf hI g hwx fun cs1 S1 w' hle1 h1 hI=>?_
 refine Run.callPure i8 iS hI (mh h1 hwx) fun w' hI=>?_
 refine ao hI 0 cR rfl (by simpa using hl6) ?_
 refine Run.toPf hI (g.mono hle1) hwx fun es S2 w' hle2 g3 hI=>?_
 have hle:=hle1.trans hle2
 have hl3:=g3.length
 refine cm hI fk fun b5 w' hI=>?_
 refine cB hI 1 rfl aD (by simpa using hl3) rfl (by simpa using g3.one) fun w' hI=>?_
 have hI:Inv w [] [.blk b1 (.cells cs.toArray dI),.blk b5 (.cells es.toArray aN)] S2 w':=hI
 refine ao hI 1 aD rfl (by simpa using hl3) ?_
 refine Run.callPure jk jg hI (mf g3 (hT.mono hle)) fun w' hI=>?_
 refine sD ?_
 refine ak (fun hb=>by simp at hb) (fun _=>?_)
 refine ⟨fun D pt oJ ri sq sY w_=>Fx D 0 [sY=.agg es.toArray,sq=.agg cs.toArray,True,oJ=.bool true,pt=.bool false]/\∃ S3,Sle S2 S3/\(D 2=true->ui S3 x ri)/\Inv w [] [.blk b1 (.cells cs.toArray dI),.blk b5 (.cells es.toArray aN)] S3 w_,⟨Fx.nil _ _,⟨S2,Sle.refl _,sT,hI.draw⟩⟩,⟨?_,?_,?_,?_,?_,trivial⟩,?_⟩
 all_goals (intro D uz; intros; rename_i pt oJ ri sq sY w_ hA_; have hF_:=hA_.1; obtain ⟨⟨kA,kL,k0,lK,lP,_⟩,⟨S3,hleR,e2,hI⟩⟩:=hA_)
 ·refine ao hI 1 aD rfl (by simpa using hl3) ?_
  exact ⟨hF_.set 0 rfl,⟨S3,hleR,e2,hI⟩⟩
 ·refine ao hI 0 cR rfl (by simpa using hl6) ?_
  exact ⟨hF_.set 1 rfl,⟨S3,hleR,e2,hI⟩⟩
 ·obtain rfl:=kL ‹_›
  refine Run.toPf hI (g.mono (hle.trans hleR)) hwx fun cs4 S3 w_ hle4 h4 hI=>?_
  have hleR:=hleR.trans hle4
  have e2:=fun (_:df D 2 2=true)=>(⟨cs4,rfl,h4⟩:ui S3 x (.agg cs4.toArray))
  exact ⟨hF_.set 2 (by first|assumption|trivial),⟨S3,hleR,e2,hI⟩⟩
 ·obtain rfl:=kA ‹_›
  have vG:=k0 ‹_›
  obtain ⟨q2,rfl,hq2⟩:=e2 ‹D 2=true›
  refine Run.callPure gQ ix hI (mB x x _ _ _ (g3.mono hleR) hq2) fun w_ hI=>?_
  rw [(qW _ _).2 rfl]
  exact ⟨hF_.set 3 rfl,⟨S3,hleR,e2,hI⟩⟩
 ·obtain rfl:=lK ‹_›
  refine bv ?_
  exact ⟨hF_.set 4 rfl,⟨S3,hleR,e2,hI⟩⟩
 obtain ⟨rfl,rfl,vG,rfl,rfl,_⟩:=hF_.all
 clear hF_ kA kL k0 lK lP
 clear e2
 exact ak (fun hb=>by cases hb) (fun _=>oX hI (hle.trans hleR) rfl)
end
end
section
open Go Go.ChangeShapes Go.WideShapes Go.RowKit
def px:List (String × DataW Unit):=[("math/bits.deBruijn32tab",Rows.laid_math_bits_deBruijn32tab),("math/bits.deBruijn64tab",Rows.laid_math_bits_deBruijn64tab),("internal/strconv.uint64pow10",Rows.laid_internal_strconv_uint64pow10)]
theorem sr:(Rows.laid_internal_strconv_uint64pow10:DataW Unit)=Lib.tabData .u64 Lib.pow10Tab:=by kernel_rfl
theorem rl:∃ g t e n,Tryz.prog.globalNamed "internal/strconv.uint64pow10" = some g/\(Tryz.prog.globals[g]?).map (·.type)=some t/\Tryz.prog.underlying t=some (.array n e)/\Tryz.prog.underlying e=some (.int .u64)/\Tryz.prog.cellsOf e=1/\Tryz.prog.cellsOf t=n:=by
 have h:(Tryz.prog.globalNamed "internal/strconv.uint64pow10").bind (fun g=>(Tryz.prog.globals[g]?).map (·.type))=some j4:=by kernel_rfl
 obtain ⟨g,hg,ht⟩:=Option.bind_eq_some_iff.1 h
 exact ⟨g,j4,sI,20,hg,ht,by kernel_rfl,by kernel_rfl,by kernel_rfl,by kernel_rfl⟩
theorem pm {W:World} (h:laidMetH Tryz.prog px W):TabS (jq W):=by
 rw [MakeChecks.laidMetH_plain _ _ _ (by kernel_rfl)] at h
 obtain ⟨ps,⟨g0,t0,cs0,f0,p0,q0,hg0,ht0,hv0,hd0,⟨g1,t1,cs1,f1,p1,q1,hg1,ht1,hv1,hd1,⟨g2,t2,cs2,f2,p2,q2,hg2,ht2,hv2,hd2,_,_⟩,_⟩,_⟩,_⟩:=h
 obtain ⟨g,t,e,n,hg,hty,ht,he,hce,hct⟩:=rl
 obtain rfl:=Option.some.inj (hg.symm.trans hg2)
 obtain rfl:=Option.some.inj (hty.symm.trans ht2)
 rw [sr] at hd2
 have hcs:=Lib.cells_of_tab ht he hce hct hd2
 unfold World.var? at hv2
 rw [hg,Option.bind_some] at hv2
 split at hv2
 ·rename_i cs' E fz hh
  obtain rfl:=Option.some.inj hv2
  refine ⟨g,E,fz,hg,?_⟩
  show W.heap[g]?=_
  rw [hh,<- hcs]
 ·cases hv2
theorem sb (os:Os) (args:Array Value):laidMetH Tryz.prog px ((World.doorLaid Tryz.prog 24 os).forCall (fun _ _=>0) ⟨#[],args,[]⟩).memory:=
 laidMetH_of_parts3 (fuel:=8) (laidMet_of_run' 8 (by kernel_rfl) (by kernel_rfl)) (by kernel_rfl) (by kernel_rfl)
end
section
open Go Go.ChangeShapes Go.WideShapes Go.ChangeAt Go.RowKit

theorem Tryz.own:ownKnob Tryz.prog.godebug=none:=by kernel_rfl
theorem Tryz.kids:Kids Tryz.prog (·<Tryz.prog.types.size):=kids_rows (by kernel_rfl) (by kernel_rfl)
theorem Tryz.full:∀ t e,t<Tryz.prog.types.size->Tryz.prog.underlying t=some (.slice e)->0<Tryz.prog.cellsOf e:=slices_full_of Tryz.prog (by kernel_rfl)
section
variable {H:Type} {enc:TypeId × Value->H} {W W':World}
theorem oo {P:Program}:∀ {ts:List TypeId} {vs:List Value} {ds:List (DataW H)} {ps:List MemPlace},DataW.TrodAll enc P W 0 (fun _=>true) true ts vs ds ps->(∀ p∈ps,W.sameAt W' p)->
  DataW.TrodAll enc P W' 0 (fun _=>true) true ts vs ds ps
 | [],[],[],_,h,_=>h
 | _::_,_::_,_::_,_,⟨p,q,⟨n,h1⟩,h2,e⟩,hs=>
  ⟨p,q,⟨n,DataW.trod_carry n _ _ _ h1 fun x hx=>hs x (by rw [e]; exact List.mem_append_left _ hx)⟩,oo h2 fun x hx=>hs x (by rw [e]; exact List.mem_append_right _ hx),e⟩
theorem tH {p:MemPlace} (h:∀ b,b<W.heap.size->W'.heap[b]?=W.heap[b]?) (hp:p.block<W.heap.size):W.sameAt W' p:=by
 cases p with
 | cell b off=>simp only [World.sameAt,World.cell?]; rw [h b hp]
 | map b=>exact h b hp
theorem rp {f:Func} {s:ChangeSpec} {args:Array Value} {ds gs:List (DataW H)} {before p q:List MemPlace}
  (hW:DataW.Whole enc Tryz.prog f.params.toList s.vars false W args.toList ds gs before) (hA:DataW.TrodAll enc Tryz.prog W 0 (fun _=>true) true f.params.toList args.toList ds p)
  (hV:DataW.TrodVars enc Tryz.prog W (fun _=>true) s.vars gs q) (hb:before=p++q) (hv:s.vars=[]) (hts:∀ t∈f.params.toList,t<Tryz.prog.types.size) (hr:f.resultTypes=#[ur])
  (hs:(s.fn H (ds++gs)).results=[.lit (.bool true)]) (ha:(s.fn H (ds++gs)).args=ds) (hsv:(s.fn H (ds++gs)).vars=[]) (hI:Inv W [] [] (jq W) W') :
  s.post enc Tryz.prog f false true false false W args (.bool true) W':=by
 have hsame:∀ b,b<W.heap.size->W'.heap[b]?=W.heap[b]?:=fun b hb=>hI.same b hb
 have hlt:=hW.lt
 rw [hv] at hV
 obtain ⟨hg,hq⟩:=trodVars_none hV
 subst hq
 rw [List.append_nil] at hb
 subst hb
 have hA':=oo (W':=W') hA fun x hx=>tH hsame (hlt x hx)
 refine ⟨ds,gs,before,[],before,[],hW,?_,?_,?_,rM hI.os hI.output hsame,fun h=>by cases h⟩
 ·rw [hs,hr]
  exact trodAll_mk1 (shut_bool tm true)
 ·rw [ha]
  exact DataW.TrodAll.respare Tryz.kids Tryz.full hts hA' fun x hx=>by simpa using hlt x hx
 ·rw [hv,hsv]
  rfl
end
end
end Go.Proofs.YtbocelianhcfmaaGreatDoor
