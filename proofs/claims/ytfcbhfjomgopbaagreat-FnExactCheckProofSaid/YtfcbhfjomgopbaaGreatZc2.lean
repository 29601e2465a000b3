/- Proofs as data: how they read out of published memory, how they are made, their sizes, copies, equality, and the row's reading of them. -/
import Derived.Test.YtfcbhfjomgopbaaGreatZc1
import Derived.Laws.BytesArg
namespace Go.Proofs.YtfcbhfjomgopbaaGreat
open Go Go.ChangeShapes Go.WideShapes Go.ChangeAt Go.RowKit

inductive PF where
 | mk (goal:T) (clause:Int) (kids:List PF)
def PF.goal:PF->T
 | .mk g _ _=>g
def PF.clause:PF->Int
 | .mk _ c _=>c
def PF.kids:PF->List PF
 | .mk _ _ ks=>ks
theorem PF.ind {p:PF->Prop} (h:∀ g c ks,(∀ t∈ks,p t)->p (.mk g c ks)) (t:PF):p t:=
 PF.rec (motive_1:=p) (motive_2:=fun l=>∀ t∈l,p t) (fun g c ks ih=>h g c ks ih) (by simp) (fun a l h1 h2 t ht=>by
  rcases List.mem_cons.1 ht with rfl|ht
  ·exact h1
  ·exact h2 t ht) t
inductive RdF (S:ar):List Value->PF->Prop
 | nil {a0 a1 a2 a3:Value} {g:T} {c:Int} {a:Option Addr} {cap:Nat} (hg:RdT S [a0,a1,a2,a3] g) (hn:inI c) (hc:cap<=maxLen) :
   RdF S [a0,a1,a2,a3,.int .i64 c,.slice a 0 cap] (.mk g c [])
 | cons {a0 a1 a2 a3:Value} {g:T} {n:Int} {kids:List PF} {b o cap:Nat} {c:Array Value} {E:TypeId} {fz:Nat × Nat} (hg:RdT S [a0,a1,a2,a3] g) (hn:inI n) (hl:kids.length<=cap) (hc:cap<=maxLen)
   (hS:S b=some (.cells c E fz)) (h:∀ i (h:i<kids.length),RdF S (ba c (o+i * 6) 6) kids[i]) :
   RdF S [a0,a1,a2,a3,.int .i64 n,.slice (some ⟨b,o,none⟩) kids.length cap] (.mk g n kids)
theorem RdF.iff {S:ar} {cs:List Value} {x:PF}:RdF S cs x ↔
  ∃ kv ks,cs=[.int .i64 x.goal.kind,.int .i64 x.goal.n,.string x.goal.name,kv,.int .i64 x.clause,ks]/\RdT S [.int .i64 x.goal.kind,.int .i64 x.goal.n,.string x.goal.name,kv] x.goal/\inI x.clause/\RdSl S 6 (RdF S) ks x.kids:=by
 constructor
 ·intro h
  cases h with
  | nil hg hn hc=>
   obtain ⟨kv,e,_⟩:=RdT.iff.1 hg
   simp only [List.cons.injEq,and_true] at e
   obtain ⟨rfl,rfl,rfl,rfl⟩:=e
   exact ⟨_,_,rfl,hg,hn,_,_,rfl,Nat.zero_le _,hc,.inl rfl⟩
  | cons hg hn hl hc hS h=>
   obtain ⟨kv,e,_⟩:=RdT.iff.1 hg
   simp only [List.cons.injEq,and_true] at e
   obtain ⟨rfl,rfl,rfl,rfl⟩:=e
   exact ⟨_,_,rfl,hg,hn,_,_,rfl,hl,hc,.inr ⟨_,_,_,_,_,rfl,hS,h⟩⟩
 ·obtain ⟨g,n,kids⟩:=x
  rintro ⟨kv,ks,rfl,hg,hn,a,cap,rfl,hl,hc,h⟩
  rcases h with h|⟨b,o,c,E,fz,rfl,hS,h⟩
  ·simp only [PF.kids] at h
   subst h
   exact RdF.nil hg hn hc
  ·exact RdF.cons hg hn hl hc hS h
theorem RdF.length {S:ar} {cs:List Value} {x:PF} (h:RdF S cs x):cs.length=6:=by
 obtain ⟨_,_,rfl,_⟩:=RdF.iff.1 h; rfl
theorem RdF.one {S:ar} {cs:List Value} {x:PF} (h:RdF S cs x):∀ u∈cs,u.oneCell'=true:=by
 obtain ⟨kv,ks,rfl,hg,_,a,cap,rfl,_⟩:=RdF.iff.1 h
 have:=hg.one kv (by simp)
 intro u hu
 simp at hu
 rcases hu with rfl|rfl|rfl|rfl|rfl|rfl <;> first|rfl|exact this
theorem RdF.mono {S S':ar} (hs:Sle S S') {cs:List Value} {x:PF} (h:RdF S cs x):RdF S' cs x:=by
 induction h with
 | nil hg hn hc=>exact RdF.nil (hg.mono hs) hn hc
 | cons hg hn hl hc hS _ ih=>exact RdF.cons (hg.mono hs) hn hl hc (hs _ _ hS) ih
/- in memory of one's own -/
inductive TrF:bo->List Value->PF->Prop
 | nil {L:bo} {a0 a1 a2 a3:Value} {g:T} {n:Int} {a:Option Addr} {cap:Nat} (hg:TrT L [a0,a1,a2,a3] g) (hn:inI n) (hc:cap<=maxLen) :
   TrF L [a0,a1,a2,a3,.int .i64 n,.slice a 0 cap] (.mk g n [])
 | cons {L:bo} {a0 a1 a2 a3:Value} {g:T} {n:Int} {kids:List PF} {b cap:Nat} {c:Array Value} {E:TypeId} {Ls:List bo} (hg:TrT L [a0,a1,a2,a3] g) (hn:inI n) (hl:kids.length<=cap) (hc:cap<=maxLen)
   (hLs:Ls.length=kids.length) (hsz:cap * 6<=c.size) (h:∀ i (h:i<kids.length) (h':i<Ls.length),TrF Ls[i] (ba c (i * 6) 6) kids[i]) :
   TrF (L++(b,.cells c E)::Ls.flatten) [a0,a1,a2,a3,.int .i64 n,.slice (some ⟨b,0,none⟩) kids.length cap] (.mk g n kids)
theorem TrF.iff {L:bo} {cs:List Value} {x:PF}:TrF L cs x ↔
  ∃ L1 L2 kv ks,L=L1++L2/\cs=[.int .i64 x.goal.kind,.int .i64 x.goal.n,.string x.goal.name,kv,.int .i64 x.clause,ks]/\TrT L1 [.int .i64 x.goal.kind,.int .i64 x.goal.n,.string x.goal.name,kv] x.goal/\inI x.clause/\TrSl 6 TrF L2 ks x.kids:=by
 constructor
 ·intro h
  cases h with
  | nil hg hn hc=>
   obtain ⟨kv,e,_⟩:=TrT.iff.1 hg
   simp only [List.cons.injEq,and_true] at e
   obtain ⟨rfl,rfl,rfl,rfl⟩:=e
   exact ⟨_,[],_,_,(List.append_nil _).symm,rfl,hg,hn,_,_,rfl,Nat.zero_le _,hc,.inl ⟨rfl,rfl⟩⟩
  | cons hg hn hl hc hLs hsz h=>
   obtain ⟨kv,e,_⟩:=TrT.iff.1 hg
   simp only [List.cons.injEq,and_true] at e
   obtain ⟨rfl,rfl,rfl,rfl⟩:=e
   exact ⟨_,_,_,_,rfl,rfl,hg,hn,_,_,rfl,hl,hc,.inr ⟨_,_,_,_,rfl,rfl,hLs,hsz,h⟩⟩
 ·obtain ⟨g,n,kids⟩:=x
  rintro ⟨L1,L2,kv,ks,rfl,rfl,hg,hn,a,cap,rfl,hl,hc,h⟩
  rcases h with ⟨h,rfl⟩|⟨b,c,E,Ls,rfl,rfl,hLs,hsz,h⟩
  ·simp only [PF.kids] at h
   subst h
   rw [List.append_nil]
   exact TrF.nil hg hn hc
  ·exact TrF.cons hg hn hl hc hLs hsz h
theorem TrF.length {L:bo} {cs:List Value} {x:PF} (h:TrF L cs x):cs.length=6:=by
 obtain ⟨_,_,_,_,_,rfl,_⟩:=TrF.iff.1 h; rfl
theorem TrF.one {L:bo} {cs:List Value} {x:PF} (h:TrF L cs x):∀ u∈cs,u.oneCell'=true:=by
 obtain ⟨_,_,kv,ks,_,rfl,hg,_,a,cap,rfl,_⟩:=TrF.iff.1 h
 have:=hg.one kv (by simp)
 intro u hu
 simp at hu
 rcases hu with rfl|rfl|rfl|rfl|rfl|rfl <;> first|rfl|exact this
theorem TrF.rd {S:ar} {L:bo} {cs:List Value} {x:PF} (h:TrF L cs x) (hi:Ins S L):RdF S cs x:=by
 induction h with
 | nil hg hn hc=>exact RdF.nil (hg.rd hi) hn hc
 | cons hg hn hl hc hLs hsz h ih=>
  refine RdF.cons (hg.rd hi.left) hn hl hc (hi.right _ (List.mem_cons_self ..)) (o:=0) fun i h1=>?_
  rw [Nat.zero_add]
  exact ih i h1 (by omega) (ug (fun p hp=>hi.right p (List.mem_cons_of_mem _ hp)) (by omega))
/- sizes -/
mutual
def szF:PF->Int->Int
 | .mk g _ ks,left=>if szT g left<0 then -1 else if szT g left - ks.length<0 then -1 else ma ks (szT g left - ks.length)
def ma:List PF->Int->Int
 | [],left=>left
 | t::ts,left=>if szF t left<0 then -1 else ma ts (szF t left)
end
def DJ (ts:List PF) (left:Int):Int:=if left - ts.length<0 then -1 else ma ts (left - ts.length)
mutual
theorem Dz:∀ (t:PF) (left:Int),0<=left->-1<=szF t left/\szF t left<=left
 | .mk g n ks,left,h=>by
  have hg:=lO g left h
  simp only [szF]
  split
  ·omega
  ·split
   ·omega
   ·have:=yZ ks (szT g left - ks.length) (by omega)
    omega
theorem yZ:∀ (ts:List PF) (left:Int),0<=left->-1<=ma ts left/\ma ts left<=left
 | [],left,h=>by simp only [ma]; omega
 | t::ts,left,h=>by
  simp only [ma]
  have h1:=Dz t left h
  split
  ·omega
  ·have h2:=yZ ts (szF t left) (by omega)
   omega
end
mutual
def wF:PF->Nat
 | .mk g _ ks=>wT g+ks.length+wFL ks
def wFL:List PF->Nat
 | []=>0
 | t::ts=>wF t+wFL ts
end
theorem zb:∀ {ts:List PF} {t:PF},t∈ts->wF t<=wFL ts
 | x::xs,t,h=>by
  simp only [wFL]
  rcases List.mem_cons.1 h with rfl|h
  ·omega
  ·have:=zb h; omega
mutual
theorem Fi:∀ (t:PF) (left:Int),0<=left->0<=szF t left->szF t left+wF t<=left
 | .mk g n ks,left,h,h0=>by
  rw [szF] at h0 ⊢
  have hg:=lO g left h
  split at h0
  ·omega
  ·rename_i e1
   split at h0
   ·omega
   ·rename_i e2
    rw [if_neg e1,if_neg e2,wF]
    have h1:=DQ g left h (by omega)
    have h2:=DP ks (szT g left - ks.length) (by omega) h0
    omega
theorem DP:∀ (ts:List PF) (left:Int),0<=left->0<=ma ts left->ma ts left+wFL ts<=left
 | [],left,h,h0=>by rw [ma,wFL]; omega
 | t::ts,left,h,h0=>by
  rw [ma] at h0 ⊢
  split at h0
  ·omega
  ·rename_i e1
   rw [if_neg e1,wFL]
   have h1:=Fi t left h (by omega)
   have h2:=DP ts (szF t left) (by omega) h0
   omega
end
mutual
def eqF:PF->PF->Bool
 | .mk g n ks,.mk g' n' ks'=>eqT g g' && (decide (n=n') && oF ks ks')
def oF:List PF->List PF->Bool
 | [],[]=>true
 | t::ts,u::us=>eqF t u && oF ts us
 | _,_=>false
end
mutual
theorem Cl:∀ a b:PF,eqF a b=true↔a=b
 | .mk g n ks,.mk g' n' ks'=>by
  simp only [eqF,Bool.and_eq_true,decide_eq_true_eq,uQ ks ks',PF.mk.injEq,zl]
theorem uQ:∀ a b:List PF,oF a b=true↔a=b
 | [],[]=>by simp [oF]
 | [],_::_=>by simp [oF]
 | _::_,[]=>by simp [oF]
 | t::ts,u::us=>by
  simp only [oF,Bool.and_eq_true,Cl t u,uQ ts us,List.cons.injEq]
end
theorem Ei:∀ {a b:List PF},a.length≠b.length->oF a b=false:=by
 intro a b h
 rw [<- Bool.not_eq_true,uQ]
 rintro rfl
 exact h rfl
theorem ly {a b c d e f:Value}:∀ (j:Nat) (v:Value),([a,b,c,d]:List Value)[j]?=some v->(#[a,b,c,d,e,f]:Array Value)[0+j]?=some v
 | 0,_,h|1,_,h|2,_,h|3,_,h=>h
 | j+4,_,h=>by simp at h
section
attribute [local irreducible] Run CondV ak bg
theorem AJ {ts:List PF} (ih:∀ t∈ts,∀ (S:ar) (cs:List Value) (left:Int),RdF S cs t->0<=left->left<=4611686018427387904->Pure Tryz.prog su [.agg cs.toArray,.int .i64 left] S (.int .i64 (szF t left)))
  {S:ar} {v:Value} {left:Int} (h:RdSl S 6 (RdF S) v ts) (h0:0<=left) (h1:left<=4611686018427387904):Pure Tryz.prog zf [v,.int .i64 left] S (.int .i64 (DJ ts left)):=by
 intro w hI
 have hlen:(ts.length:Int)<=9223372036854775807:=by have:=h.le; simp only [maxLen] at this; omega
 refine q7 ?_
 unfold no
 refine a5 h fG ?_
 refine jA (by omega) ?_
 refine bz ?_
 refine bf (fun hlt=>?_) (fun hlt=>?_)
 ·exact done hI (by rw [DJ,if_pos hlt])
 refine ⟨fun i l w'=>∃ (k:Nat) (l':Int),k<=ts.length/\i=.int .i64 k/\l=.int .i64 l'/\0<=l'/\l'<=left/\ma (ts.drop k) l'=ma ts (left - ts.length)/\Inv w [] [] S w',
  fun i _ _=>ts.length - (intOf i).toNat,⟨0,_,Nat.zero_le _,rfl,rfl,by omega,by omega,rfl,hI⟩,?_⟩
 intro t5 _ _ _ _ _ t1 _ _ _ _ _ _ _ _ _ _ w'
 rintro ⟨k,l',hk,rfl,rfl,hl0,hl1,hrel,hI⟩
 refine a5 h fG ?_
 refine bz ?_
 refine bf (fun hki=>?_) (fun hki=>?_)
 ·have hk':k<ts.length:=by omega
  refine cj hI h fG im hk' (fun _ _=>RdF.length) fun cs hcs=>?_
  have hb:=Dz ts[k] l' hl0
  refine Run.callPure pU p4 hI (ih _ (List.getElem_mem _) S cs l' hcs hl0 (by omega)) fun w' hI=>?_
  have hstep:ma (ts.drop k) l'=if szF ts[k] l'<0 then -1 else ma (ts.drop (k+1)) (szF ts[k] l'):=by
   rw [List.drop_eq_getElem_cons hk',ma]
  refine bz ?_
  refine bf (fun hneg=>?_) (fun hneg=>?_)
  ·exact done hI (by rw [DJ,if_neg hlt,<- hrel,hstep,if_pos hneg])
  ·refine b0 (by omega) ?_
   refine ⟨⟨k+1,_,hk',rfl,rfl,by omega,by omega,?_,hI⟩,by simp [intOf]; omega⟩
   rw [<- hrel,hstep,if_neg hneg]
 ·have:k=ts.length:=by omega
  subst this
  exact done hI (by rw [DJ,if_neg hlt,<- hrel,List.drop_length,ma])
theorem xJ:∀ (t:PF) (S:ar) (cs:List Value) (left:Int),RdF S cs t->0<=left->left<=4611686018427387904->
  Pure Tryz.prog su [.agg cs.toArray,.int .i64 left] S (.int .i64 (szF t left)):=by
 refine PF.ind fun g c ks ih S cs left h h0 h1=>?_
 intro w hI
 obtain ⟨kv,kf,rfl,hg,hc,hks⟩:=RdF.iff.1 h
 simp only [PF.goal,PF.kids,PF.clause] at hg hc hks ⊢
 refine tq ?_
 unfold oI
 refine bt hI fun b w' hI=>?_
 refine bb sH ?_
 refine bY hI 0 [_,_,_,_] km rfl rfl ly ?_
 refine Run.callPure mn mw hI (kI g S _ left hg h0 h1) fun w' hI=>?_
 have hgl:=lO g left h0
 refine bz ?_
 refine bf (fun hlt=>?_) (fun hlt=>?_)
 ·exact done hI (by rw [szF,if_pos hlt])
 refine ah hI 0 rfl sI wg rfl ?_
 refine Run.callPure wo wv hI (AJ ih hks (by omega) (by omega)) fun w' hI=>?_
 refine bz ?_
 refine bf (fun hneg=>?_) (fun hneg=>?_)
 ·refine done hI ?_
  rw [szF,if_neg hlt]
  unfold DJ at hneg
  split
  ·rfl
  ·rename_i h3
   rw [if_neg h3] at hneg
   have:=yZ ks (szT g left - ks.length) (by omega)
   congr 1; omega
 ·refine done hI ?_
  rw [szF,if_neg hlt]
  rfl
abbrev DX (S:ar) (t:PF):Value->List Item->ar->Prop:=fun v I' S'=>S'=S/\∃ cs L,v=.agg cs.toArray/\I'=dP L/\TrF L cs t
theorem Ai {ts:List PF} (ih:∀ t∈ts,∀ (S:ar) (cs:List Value),RdF S cs t->wF t<=1048576->Tri Tryz.prog l0 [.agg cs.toArray] [] S (DX S t))
  {S:ar} {v:Value} (h:RdSl S 6 (RdF S) v ts) (hw:ts.length+wFL ts<=1048576):Tri Tryz.prog yV [v] [] S (Cw 6 TrF S ts):=by
 intro w hI
 refine rv ?_
 unfold nr
 refine a5 h fG ?_
 refine lH hI BW (by omega) (by omega) fun b c w' hc hI=>?_
 refine ⟨fun i w'=>∃ (k:Nat) (c:Array Value) (Ls:List bo),k<=ts.length/\i=.int .i64 k/\c.size=ts.length * 6/\Part 6 TrF c Ls (ts.take k)/\Inv w [] (dP ((b,.cells c bx)::Ls.flatten)) S w',
  fun i _=>ts.length - (intOf i).toNat,⟨0,c,[],Nat.zero_le _,rfl,hc,Part.nil _ _ _,hI⟩,?_⟩
 intro t4 _ _ _ _ _ _ _ _ _ _ _ _ _ _ w'
 rintro ⟨k,c,Ls,hk,rfl,hc,hp,hI⟩
 refine a5 h fG ?_
 refine bz ?_
 refine bf (fun hki=>?_) (fun hki=>?_)
 ·have hk':k<ts.length:=by omega
  have htl:(ts.take k).length=k:=by simp; omega
  refine cj hI h fG im hk' (fun _ _=>RdF.length) fun cs hcs=>?_
  have hm:=List.getElem_mem hk'
  have hwm:=zb hm
  refine Run.call0 o3 pg hI (ih _ hm S cs hcs (by omega)) fun v' I' S' w'=>?_
  rintro ⟨rfl,cs',L,rfl,rfl,hT⟩ _ hI
  refine vZ hI 0 (k:=6) (by rfl) bD bS hk' (by omega) (by simp [Value.cells,hT.length]) (by simpa [Value.cells] using hT.one) fun w' hI=>?_
  refine b0 (by omega) ?_
  refine ⟨⟨k+1,bO c (k * 6) cs',Ls++[L],hk',rfl,?_,?_,?_⟩,by simp [intOf]; omega⟩
  ·rw [fr _ _ _ (by rw [hT.length]; omega)]; exact hc
  ·have:=hp.snoc hT hT.length (by rw [htl]; omega)
   rw [htl] at this
   rw [List.take_succ_eq_append_getElem hk']
   exact this
  ·simp only [List.flatten_append,List.flatten_cons,List.flatten_nil,List.append_nil]
   simpa [dP,Value.cells] using hI
 ·have:k=ts.length:=by omega
  subst this
  rw [List.take_length] at hp
  exact ⟨_,_,_,rfl,hI,Ext.refl _ _ _,rfl,_,rfl,hp.sl (Nat.le_refl _) (by simp only [maxLen]; omega) (by omega)⟩
theorem xw:∀ (t:PF) (S:ar) (cs:List Value),RdF S cs t->wF t<=1048576->Tri Tryz.prog l0 [.agg cs.toArray] [] S (DX S t):=by
 refine PF.ind fun g n ks ih S cs h hw=>?_
 intro w hI
 obtain ⟨kv,kf,rfl,hg,hc,hks⟩:=RdF.iff.1 h
 simp only [PF.goal,PF.kids,PF.clause] at hg hc hks ⊢
 simp only [wF] at hw
 refine tJ ?_
 unfold pK
 refine bt hI fun b1 w' hI=>?_
 refine bC hI rh fun b2 w' hI=>?_
 refine bC hI rh fun b3 w' hI=>?_
 refine bb sH ?_
 refine bY hI 0 [_,_,_,_] km rfl rfl ly ?_
 refine Run.call0 iZ i4 hI (hZ g S _ hg (by omega)) fun v' I' S' w'=>?_
 rintro ⟨rfl,cs1,L1,rfl,rfl,hT1⟩ _ hI
 obtain ⟨kv1,rfl,e1,e2,e3,e4⟩:=TrT.iff.1 hT1
 have hv1:kv1.oneCell'=true:=by obtain ⟨a,cap,rfl,_⟩:=e4; rfl
 refine bb ct ?_
 refine oZ hI 2 rfl al rfl rfl ?_ fun w' hI=>?_
 ·intro u hu
  simp [Value.cells] at hu
  rcases hu with rfl|rfl|rfl|rfl <;> first|rfl|exact hv1
 refine ah hI 0 rfl A2 aR rfl ?_
 refine dF hI 2 rfl ch aR rfl rfl rfl fun w' hI=>?_
 refine ah hI 0 rfl sI wg rfl ?_
 refine Run.call0 xb xF hI (Ai ih hks (by omega)) fun v' I' S' w'=>?_
 rintro ⟨rfl,L2,rfl,hT2⟩ _ hI
 have hv:v'.cells=#[v']/\v'.oneCell'=true:=by obtain ⟨a,cap,rfl,_⟩:=hT2; exact ⟨rfl,rfl⟩
 refine dF hI 2 rfl bK bT rfl hv.1 hv.2 fun w' hI=>?_
 refine a8 hI 2 bS rfl rfl ?_
 have h1:∀ u∈([.int .i64 g.kind,.int .i64 g.n,.string g.name,kv1,.int .i64 n,v']:List Value),u.oneCell'=true:=by
  intro u hu
  simp at hu
  rcases hu with rfl|rfl|rfl|rfl|rfl|rfl <;> first|rfl|exact hv1|exact hv.2
 refine bq hI 1 rfl bS rfl rfl h1 fun w' hI=>?_
 refine dJ hI 1 bS rfl rfl ?_
 have hI':=hI.sub (List.sublist_append_right [_,_,_] (dP L1++dP L2))
 rw [<- sc] at hI'
 exact ⟨_,_,_,rfl,hI',Ext.refl _ _ _,rfl,[.int .i64 g.kind,.int .i64 g.n,.string g.name,kv1,.int .i64 n,v'],L1++L2,rfl,rfl,TrF.iff.2 ⟨L1,L2,kv1,v',rfl,rfl,hT1,hc,hT2⟩⟩
theorem AL {xs:List PF} (ih:∀ t∈xs,∀ (u:PF) (S:ar) (cs ds:List Value),RdF S cs t->RdF S ds u->Pure Tryz.prog rZ [.agg cs.toArray,.agg ds.toArray] S (.bool (eqF t u)))
  {ys:List PF} {S:ar} {v u:Value} (h:RdSl S 6 (RdF S) v xs) (h':RdSl S 6 (RdF S) u ys):Pure Tryz.prog yQ [v,u] S (.bool (oF xs ys)):=by
 intro w hI
 have hlen:(xs.length:Int)<=9223372036854775807:=by have:=h.le; simp only [maxLen] at this; omega
 refine rH ?_
 unfold nM
 refine a5 h bD ?_
 refine a5 h' bD ?_
 refine bQ ?_
 refine bd (fun hne=>?_) (fun he=>?_)
 ·exact done hI (by rw [Ei (by simp at hne; omega)])
 have he:xs.length=ys.length:=by simp at he; omega
 refine ⟨fun i w'=>∃ (k:Nat),k<=xs.length/\i=.int .i64 k/\oF (xs.drop k) (ys.drop k)=oF xs ys/\Inv w [] [] S w',fun i _=>xs.length - (intOf i).toNat,⟨0,Nat.zero_le _,rfl,rfl,hI⟩,?_⟩
 intro t5 _ _ _ _ _ _ _ _ _ _ _ _ _ _ _ _ _ w'
 rintro ⟨k,hk,rfl,hrel,hI⟩
 refine a5 h bD ?_
 refine bz ?_
 refine bf (fun hki=>?_) (fun hki=>?_)
 ·have hk1:k<xs.length:=by omega
  have hk2:k<ys.length:=by omega
  obtain ⟨b1,o1,cap1,c1,E1,fz1,rfl,hS1,hR1⟩:=h.at_ hk1
  obtain ⟨b2,o2,cap2,c2,E2,fz2,rfl,hS2,hR2⟩:=h'.at_ hk2
  have hstep:oF (xs.drop k) (ys.drop k)=(eqF xs[k] ys[k] && oF (xs.drop (k+1)) (ys.drop (k+1))):=by
   rw [List.drop_eq_getElem_cons hk1,List.drop_eq_getElem_cons hk2,oF]
  refine ⟨fun D fm fl dM ev dS dQ dY dD dG dK w_=>(D 0=true->dK=.slice (some ⟨b1,o1,none⟩) xs.length cap1)/\(D 1=true->dG=.int .i64 k)/\(D 2=true->dD=.pointer (some ⟨b1,o1+k * 6,none⟩))/\(D 3=true->dY=.agg (ba c1 (o1+k * 6) 6).toArray)/\(D 4=true->dQ=.slice (some ⟨b2,o2,none⟩) ys.length cap2)/\(D 5=true->dS=.int .i64 k)/\(D 6=true->ev=.pointer (some ⟨b2,o2+k * 6,none⟩))/\(D 7=true->dM=.agg (ba c2 (o2+k * 6) 6).toArray)/\(D 8=true->fl=.bool (eqF xs[k] ys[k]))/\(D 9=true->fm=.bool (!eqF xs[k] ys[k]))/\Inv w [] [] S w_,⟨ae,ae,ae,ae,ae,ae,ae,ae,ae,ae,hI.draw⟩,⟨?_,?_,?_,?_,?_,?_,?_,?_,?_,?_,trivial⟩,?_⟩
  ·intro D aY  fm fl dM ev dS dQ dY dD dG dK w_
   rintro ⟨av,aw,ao,au,az,aq,aA,aE,aH,aL,hI⟩
   exact ⟨fun _=>rfl,aw,ao,au,az,aq,aA,aE,aH,aL,hI⟩
  ·intro D aY  fm fl dM ev dS dQ dY dD dG dK w_
   rintro ⟨av,aw,ao,au,az,aq,aA,aE,aH,aL,hI⟩
   exact ⟨av,fun _=>rfl,ao,au,az,aq,aA,aE,aH,aL,hI⟩
  ·intro D aY cB q4 fm fl dM ev dS dQ dY dD dG dK w_
   rintro ⟨av,aw,ao,au,az,aq,aA,aE,aH,aL,hI⟩
   obtain rfl:=av cB
   obtain rfl:=aw q4
   refine aT bD hk1 ?_
   exact ⟨av,aw,fun _=>rfl,au,az,aq,aA,aE,aH,aL,hI⟩
  ·intro D aY cc fm fl dM ev dS dQ dY dD dG dK w_
   rintro ⟨av,aw,ao,au,az,aq,aA,aE,aH,aL,hI⟩
   obtain rfl:=ao cc
   refine bw bS hR1.length (fun j v hj=>by rw [hI.cellS hS1]; exact aS rfl j v hj) ?_
   exact ⟨av,aw,ao,fun _=>rfl,az,aq,aA,aE,aH,aL,hI⟩
  ·intro D aY  fm fl dM ev dS dQ dY dD dG dK w_
   rintro ⟨av,aw,ao,au,az,aq,aA,aE,aH,aL,hI⟩
   exact ⟨av,aw,ao,au,fun _=>rfl,aq,aA,aE,aH,aL,hI⟩
  ·intro D aY  fm fl dM ev dS dQ dY dD dG dK w_
   rintro ⟨av,aw,ao,au,az,aq,aA,aE,aH,aL,hI⟩
   exact ⟨av,aw,ao,au,az,fun _=>rfl,aA,aE,aH,aL,hI⟩
  ·intro D aY cZ cm fm fl dM ev dS dQ dY dD dG dK w_
   rintro ⟨av,aw,ao,au,az,aq,aA,aE,aH,aL,hI⟩
   obtain rfl:=az cZ
   obtain rfl:=aq cm
   refine aT bD hk2 ?_
   exact ⟨av,aw,ao,au,az,aq,fun _=>rfl,aE,aH,aL,hI⟩
  ·intro D aY ci fm fl dM ev dS dQ dY dD dG dK w_
   rintro ⟨av,aw,ao,au,az,aq,aA,aE,aH,aL,hI⟩
   obtain rfl:=aA ci
   refine bw bS hR2.length (fun j v hj=>by rw [hI.cellS hS2]; exact aS rfl j v hj) ?_
   exact ⟨av,aw,ao,au,az,aq,aA,fun _=>rfl,aH,aL,hI⟩
  ·intro D aY dq gY fm fl dM ev dS dQ dY dD dG dK w_
   rintro ⟨av,aw,ao,au,az,aq,aA,aE,aH,aL,hI⟩
   obtain rfl:=au dq
   obtain rfl:=aE gY
   refine Run.callPure pq qp hI (ih _ (List.getElem_mem hk1) _ S _ _ hR1 hR2) fun w_ hI=>?_
   exact ⟨av,aw,ao,au,az,aq,aA,aE,fun _=>rfl,aL,hI⟩
  ·intro D aY dN fm fl dM ev dS dQ dY dD dG dK w_
   rintro ⟨av,aw,ao,au,az,aq,aA,aE,aH,aL,hI⟩
   obtain rfl:=aH dN
   refine bJ ?_
   exact ⟨av,aw,ao,au,az,aq,aA,aE,aH,fun _=>rfl,hI⟩
  intro D hY gh fB fk fi e9 fe eQ eZ e8 fm fl dM ev dS dQ dY dD dG dK w_
  rintro ⟨av,aw,ao,au,az,aq,aA,aE,aH,aL,hI⟩
  obtain rfl:=aL hY
  obtain rfl:=aH gh
  obtain rfl:=aE fB
  obtain rfl:=aA fk
  obtain rfl:=aq fi
  obtain rfl:=az e9
  obtain rfl:=au fe
  obtain rfl:=ao eQ
  obtain rfl:=aw eZ
  obtain rfl:=av e8
  clear av aw ao au az aq aA aE aH aL
  refine bd (fun hne=>?_) (fun he'=>?_)
  ·exact done hI (by rw [<- hrel,hstep]; simp at hne; rw [hne]; rfl)
  ·refine b0 (by omega) ?_
   refine ⟨⟨k+1,hk1,rfl,?_,hI⟩,by simp [intOf]; omega⟩
   rw [<- hrel,hstep]
   simp at he'
   rw [he',Bool.true_and]
 ·have:k=xs.length:=by omega
  subst this
  refine done hI ?_
  rw [<- hrel,List.drop_length,he,List.drop_length]
  rfl
theorem xo:∀ (t u:PF) (S:ar) (cs ds:List Value),RdF S cs t->RdF S ds u->Pure Tryz.prog rZ [.agg cs.toArray,.agg ds.toArray] S (.bool (eqF t u)):=by
 refine PF.ind fun g n ks ih u S cs ds h h'=>?_
 intro w hI
 obtain ⟨kv,kf,rfl,hg,hc,hks⟩:=RdF.iff.1 h
 obtain ⟨kv',kf',rfl,hg',hc',hks'⟩:=RdF.iff.1 h'
 obtain ⟨g',n',ks'⟩:=u
 simp only [PF.goal,PF.kids,PF.clause] at hg hc hks hg' hc' hks' ⊢
 refine tj ?_
 unfold pL
 refine bt hI fun b1 w' hI=>?_
 refine bt hI fun b2 w' hI=>?_
 refine bb ct ?_
 refine bY hI 0 [_,_,_,_] al rfl rfl ly ?_
 refine bb ct ?_
 refine bY hI 1 [_,_,_,_] al rfl rfl ly ?_
 refine Run.callPure mp lY hI (kR _ _ S _ _ hg hg') fun w' hI=>?_
 refine bJ ?_
 refine bd (fun hne=>done hI ?_) (fun e1=>?_)
 ·simp at hne; simp [eqF,hne]
 refine ah hI 0 rfl ch aR rfl ?_
 refine ah hI 1 rfl ch aR rfl ?_
 refine bQ ?_
 refine bd (fun hne=>done hI ?_) (fun e2=>?_)
 ·simp at hne; simp [eqF,hne]
 refine ah hI 0 rfl bK bT rfl ?_
 refine ah hI 1 rfl bK bT rfl ?_
 refine Run.callPure wJ wZ hI (AL ih hks hks') fun w' hI=>?_
 refine bJ ?_
 simp at e1 e2
 refine bd (fun hne=>done hI ?_) (fun e4=>done hI ?_)
 ·simp at hne; simp [eqF,hne]
 ·simp at e4; simp [eqF,e1,e2,e4]
end
section
variable {H:Type} {enc:TypeId × Value->H} {W:World} {sp:Nat->Bool} {held:Bool}
theorem six {cs:List Value} (h:cs.length=6):∃ a b c d e f,cs=[a,b,c,d,e,f]:=by
 match cs,h with
 | [a,b,c,d,e,f],_=>exact ⟨a,b,c,d,e,f,rfl⟩
theorem BH:∀ (fuel:Nat) (cs:List Value) (x:DataW H × List MemPlace),DataW.trod enc Tryz.prog W 0 sp held fuel iq cs=some x->∃ t,RdF (lg W) cs t:=by
 intro fuel
 induction fuel using Nat.strongRecOn with
 | _ fuel ih=>
  intro cs x h
  obtain ⟨n,hn,hl,hf⟩:=rr CK h
  rw [CJ] at hl
  obtain ⟨c0,c1,c2,c3,c4,c5,rfl⟩:=six hl
  obtain ⟨y0,h0⟩:=hf 0 _ _ rfl
  obtain ⟨y1,h1⟩:=hf 1 _ _ rfl
  obtain ⟨y2,h2⟩:=hf 2 _ _ rfl
  rw [vf] at h0
  rw [Dq] at h1
  rw [BD] at h2
  obtain ⟨g,hg⟩:=ry _ [c0,c1,c2,c3] _ h0
  obtain ⟨k,rfl,hk⟩:=vq fD h1
  obtain ⟨ks,hks⟩:=ul (R:=RdF (lg W)) fG (by omega) h2 fun n' cs' y hn' hy=>ih n' (by omega) cs' y hy
  obtain ⟨kv,e,_⟩:=RdT.iff.1 hg
  simp only [List.cons.injEq,and_true] at e
  obtain ⟨rfl,rfl,rfl,rfl⟩:=e
  exact ⟨.mk g k ks,RdF.iff.2 ⟨_,_,rfl,hg,hk,hks⟩⟩
end
end Go.Proofs.YtfcbhfjomgopbaaGreat

/- Proofs that are valid, on both sides. -/
namespace Go.Proofs.YtfcbhfjomgopbaaGreat
open Go Go.RowKit
section
attribute [local irreducible] Run CondV ak bg
theorem oe {σ:Type} {f:FuncId} {fn:Func} {cap:List Value} {S:ar} {It:σ->List Item} {ok:σ->Prop} {step:σ->PF->Bool × σ} {xs:List PF} {v:Value}
  (hcb:Cb Tryz.prog f fn cap S It ok step (fun v x=>∃ cs,v=.agg cs.toArray/\RdF S cs x) xs) (h:RdSl S 6 (RdF S) v xs) {st:σ} (hok:ok st) :
  Tri Tryz.prog mV [v,fv f cap] (It st) S fun r I' S'=>r=.int .i64 (co step st xs 0).1/\I'=It (co step st xs 0).2/\S'=S:=by
 intro w hI
 have hlen:=h.le
 simp only [maxLen] at hlen
 refine ka ?_
 unfold gM
 refine a5 h bD ?_
 refine ⟨fun i w'=>∃ (k:Nat) (st':σ),k<=xs.length/\i=.int .i64 k/\ok st'/\co step st' (xs.drop k) k=co step st xs 0/\Inv w (bv (It st)) (It st') S w',fun i _=>xs.length - (intOf i).toNat,
  ⟨0,st,Nat.zero_le _,rfl,hok,rfl,hI⟩,?_⟩
 intro t8 _ _ _ _ _ _ _ _ _ _ _ _ w'
 rintro ⟨k,st',hk,rfl,hok',hrel,hI⟩
 refine bz ?_
 refine bf (fun hki=>?_) (fun hki=>?_)
 ·have hk':k<xs.length:=by omega
  have hm:=List.getElem_mem hk'
  have hstep:co step st' (xs.drop k) k=if (step st' xs[k]).1 then ((k:Int),(step st' xs[k]).2) else co step (step st' xs[k]).2 (xs.drop (k+1)) (k+1):=by
   rw [List.drop_eq_getElem_cons hk',co]
  refine cj hI h bD bS hk' (fun _ _=>RdF.length) fun cs hcs=>?_
  refine Run.callV (A:=[]) (args:=[.agg cs.toArray]) hcb.hf hcb.hn (by simpa using hI) (hcb.call st' _ _ hm hok' ⟨cs,rfl,hcs⟩) fun v' I' S' w'=>?_
  rintro ⟨rfl,rfl,rfl⟩ _ hI
  refine bd (fun hb=>?_) (fun hb=>?_)
  ·rw [if_pos hb] at hstep
   refine ⟨_,_,_,rfl,by simpa using hI,Ext.refl _ _ _,?_,?_,rfl⟩
   ·rw [<- hrel,hstep]
   ·rw [<- hrel,hstep]
  ·refine b0 (by omega) ?_
   rw [hb] at hstep
   refine ⟨⟨k+1,_,hk',rfl,hcb.keep st' _ hm hok' hb,?_,by simpa using hI⟩,by simp [intOf]; omega⟩
   rw [<- hrel,hstep]
   rfl
 ·have:k=xs.length:=by omega
  subst this
  rw [List.drop_length,co] at hrel
  exact ⟨_,_,_,rfl,hI,Ext.refl _ _ _,by rw [<- hrel],by rw [<- hrel],rfl⟩
theorem lr {σ:Type} {f:FuncId} {fn:Func} {cap:List Value} {S:ar} {It:σ->List Item} {ok:σ->Prop} {step:σ->PF->Bool × σ} {xs:List PF} {v:Value}
  (hcb:Cb Tryz.prog f fn cap S It ok step (fun v x=>∃ cs,v=.agg cs.toArray/\RdF S cs x) xs) (h:RdSl S 6 (RdF S) v xs) {st:σ} (hok:ok st) :
  Tri Tryz.prog kB [v,fv f cap] (It st) S fun r I' S'=>r=.bool (iK step st xs).1/\I'=It (iK step st xs).2/\S'=S:=by
 intro w hI
 refine iD ?_
 unfold fI
 refine Run.call (A:=[]) l2 lX (by simpa using hI) (oe hcb h hok) fun v' I' S' w'=>?_
 rintro ⟨rfl,rfl,rfl⟩ _ hI
 refine g5 ?_
 have he:=iy step xs st 0
 exact ⟨_,_,_,rfl,by simpa using hI,Ext.refl _ _ _,by rw [he.1],by rw [he.2],rfl⟩
end
def sq (g:T) (c:Int) (l:Nat):Bool:=eg g && ((decide (-1<=c) && decide (c<=19)) && decide (l<=6))
mutual
def eu:PF->Int->Int->Bool × Int
 | .mk g c ks,deep,n=>if 60<n+1 ∨ 20<deep then (false,n+1) else if sq g c ks.length=true then fC ks (deep+1) (n+1) else (false,n+1)
def fC:List PF->Int->Int->Bool × Int
 | [],_,n=>(true,n)
 | t::ts,deep,n=>if (eu t deep n).1 then fC ts deep (eu t deep n).2 else (false,(eu t deep n).2)
end
mutual
def l5:PF->Int->Bool
 | .mk g c ks,d=>decide (1<=d) && (sq g c ks.length && nu ks (d - 1))
def nu:List PF->Int->Bool
 | [],_=>true
 | t::ts,d=>l5 t d && nu ts d
end
mutual
def i7:PF->Int
 | .mk _ _ ks=>1+fp ks
def fp:List PF->Int
 | []=>0
 | t::ts=>i7 t+fp ts
end
def jf (x:PF):Bool:=l5 x 20 && decide (i7 x<=60)
mutual
theorem uB:∀ t:PF,1<=i7 t
 | .mk _ _ ks=>by
  have:=ju ks
  rw [i7]; omega
theorem ju:∀ ts:List PF,0<=fp ts
 | []=>Int.le_refl _
 | t::ts=>by
  have h1:=uB t
  have h2:=ju ts
  rw [fp]; omega
end
mutual
theorem vb:∀ (t:PF) (deep n:Int),(eu t deep n).1=(l5 t (21 - deep) && decide (n+i7 t<=60))/\((eu t deep n).1=true->(eu t deep n).2=n+i7 t)
 | .mk g c ks,deep,n=>by
  have hl:=ju ks
  rw [eu,l5,i7]
  by_cases h1:60<n+1 ∨ 20<deep
  ·rw [if_pos h1]
   refine ⟨?_,fun h=>by cases h⟩
   rcases h1 with h1|h1
   ·rw [decide_eq_false (show ¬ (n+(1+fp ks)<=60) by omega),Bool.and_false]
   ·rw [decide_eq_false (show ¬ (1<=21 - deep) by omega)]; rfl
  ·rw [if_neg h1,decide_eq_true (show 1<=21 - deep by omega),Bool.true_and]
   cases hn:sq g c ks.length with
   | false=>exact ⟨rfl,fun h=>by cases h⟩
   | true=>
    rw [if_pos rfl,Bool.true_and]
    have:=yy ks (deep+1) (n+1)
    rw [show 21 - (deep+1)=21 - deep - 1 by omega] at this
    rw [show n+(1+fp ks)=n+1+fp ks by omega]
    refine ⟨?_,this.2⟩
    rw [this.1]
    cases ks with
    | nil=>rw [show fp []=0 from rfl,decide_eq_true (show n+1+0<=60 by omega)]; rfl
    | cons t ts=>simp
theorem yy:∀ (ts:List PF) (deep n:Int),(fC ts deep n).1=(nu ts (21 - deep) && (ts.isEmpty || decide (n+fp ts<=60)))/\((fC ts deep n).1=true->(fC ts deep n).2=n+fp ts)
 | [],deep,n=>by simp [fC,nu,fp]
 | t::ts,deep,n=>by
  have ht:=vb t deep n
  have hp:=ju ts
  rw [fC,nu,fp,List.isEmpty_cons,Bool.false_or]
  cases h1:(eu t deep n).1 with
  | false=>
   rw [h1] at ht
   have h2:=ht.1
   refine ⟨?_,fun h=>by cases h⟩
   simp only [Bool.false_eq_true,if_false]
   cases hs:l5 t (21 - deep) with
   | false=>rfl
   | true=>
    rw [hs,Bool.true_and] at h2
    have:¬ (n+i7 t<=60):=of_decide_eq_false h2.symm
    rw [decide_eq_false (show ¬ (n+(i7 t+fp ts)<=60) by omega),Bool.and_false]
  | true=>
   rw [h1] at ht
   have h2:=ht.1
   have h3:=ht.2 rfl
   simp only [if_true]
   rw [h3]
   have hs:l5 t (21 - deep)=true/\n+i7 t<=60:=by
    have:=h2.symm
    simpa using this
   have hl:=yy ts deep (n+i7 t)
   rw [show n+(i7 t+fp ts)=n+i7 t+fp ts by omega]
   refine ⟨?_,hl.2⟩
   rw [hl.1,hs.1,Bool.true_and]
   cases ts with
   | nil=>rw [show fp []=0 from rfl,decide_eq_true (show n+i7 t+0<=60 by omega)]; rfl
   | cons u us=>simp
end
theorem zS (t:PF):(eu t 1 0).1=jf t:=by
 rw [(vb t 1 0).1,jf]
 simp
theorem A5:∀ (t:PF) (deep n:Int),n<=60->(eu t deep n).1=true->n<(eu t deep n).2/\(eu t deep n).2<=60:=by
 intro t deep n hn h
 have:=vb t deep n
 rw [this.2 h]
 have h1:=this.1
 rw [h] at h1
 have h2:=h1.symm
 simp at h2
 have:=uB t
 omega
theorem vz (deep:Int):∀ (ks:List PF) (n:Int),iK (fun n t=>(!(eu t deep n).1,(eu t deep n).2)) n ks=(!(fC ks deep n).1,(fC ks deep n).2)
 | [],n=>by simp [iK,fC]
 | t::ts,n=>by
  by_cases h:(eu t deep n).1=true
  ·simp [iK,fC,h,vz deep ts]
  ·simp [iK,fC,h]
/- the reference's count, up to a number -/
mutual
def ni:PF->Int->Int
 | .mk _ _ ks,m=>gr ks 1 m
def gr:List PF->Int->Int->Int
 | [],n,_=>n
 | t::ts,n,m=>if n<=m then gr ts (n+ni t (m - n)) m else n
end
mutual
theorem u0:∀ (t:PF) (m:Int),0<=m->1<=ni t m/\ni t m<=m+1/\(i7 t<=m->ni t m=i7 t)/\(m<i7 t->m<ni t m)
 | .mk g c ks,m,hm=>by
  have h:=yB ks 1 m hm (by omega) (by omega)
  rw [ni,i7]
  exact h
theorem yB:∀ (ts:List PF) (n m:Int),0<=m->1<=n->n<=m+1->1<=gr ts n m/\gr ts n m<=m+1/\(n+fp ts<=m->gr ts n m=n+fp ts)/\(m<n+fp ts->m<gr ts n m)
 | [],n,m,hm,hn,hn2=>by rw [gr,fp]; omega
 | t::ts,n,m,hm,hn,hn2=>by
  have hp:=ju ts
  have hp1:=uB t
  rw [gr,fp]
  split
  ·rename_i hle
   obtain ⟨h1,h2,h3,h4⟩:=u0 t (m - n) (by omega)
   obtain ⟨g1,g2,g3,g4⟩:=yB ts (n+ni t (m - n)) m hm (by omega) (by omega)
   refine ⟨g1,g2,fun h=>?_,fun h=>?_⟩
   ·have:=h3 (by omega)
    rw [g3 (by omega)]
    omega
   ·by_cases hc:i7 t<=m - n
    ·have:=h3 hc
     exact g4 (by omega)
    ·have:=h4 (by omega)
     exact g4 (by omega)
  ·omega
end
theorem Dr (t:PF):decide (ni t 60<=60)=decide (i7 t<=60):=by
 obtain ⟨_,_,h3,h4⟩:=u0 t 60 (by omega)
 rw [decide_eq_decide]
 constructor
 ·intro h
  rcases Int.lt_or_le 60 (i7 t) with h5|h5
  ·have:=h4 h5; omega
  ·exact h5
 ·intro h
  rw [h3 h]; exact h
section
attribute [local irreducible] Run CondV ak bg
theorem tZ:∀ (t:PF) (S:ar) (cs:List Value) (deep n:Int) (bc:Nat),RdF S cs t->0<=deep->deep<=21->0<=n->n<=60->
  Tri Tryz.prog wA [.agg cs.toArray,.int .i64 deep,.pointer (some ⟨bc,0,none⟩)] [dW bc n] S (jD bc S (eu t deep n)):=by
 refine PF.ind fun g c ks ih S cs deep n bc h hd0 hd1 hc0 hc1=>?_
 intro w hI
 obtain ⟨kv,kf,rfl,hg,hc,hks⟩:=RdF.iff.1 h
 simp only [PF.goal,PF.kids,PF.clause] at hg hc hks ⊢
 have hend:∀ {L:List Item} {w':World} {v:Value} (r:Bool × Int),Inv w (bv [dW bc n]) (dW bc r.2::L) S w'->v=.bool r.1->r=eu (.mk g c ks) deep n->
   ∃ v' I' S',Ending.returned v=.returned v'/\Inv w (bv [dW bc n]) I' S' w'/\Ext w.heap.size (bv [dW bc n]) S S'/\jD bc S (eu (.mk g c ks) deep n) v' I' S':=by
  intro L w' v r h1 h2 h3
  subst h3
  exact ⟨_,_,_,rfl,h1.pick [true],Ext.refl _ _ _,h2,rfl,rfl⟩
 refine pp ?_
 unfold mt;dsimp only
 refine bt hI fun b3 w' hI=>?_
 refine bt hI fun b4 w' hI=>?_
 refine bt hI fun b5 w' hI=>?_
 refine bj hI 3 mE rfl rfl ?_
 refine bR ?_
 refine bj hI 0 aR rfl rfl ?_
 refine b0 (by omega) ?_
 refine bR ?_
 refine gK hI 0 (n:=1) rfl (by rw [aR]; rfl) rfl (Nat.le_of_ble_eq_true rfl) (by simp [Value.cells]; rfl) fun w' hI=>?_
 have hI:Inv w (bv [dW bc n]) [dW bc (n+1),.blk b3 (.cells #[.int .i64 g.kind,.int .i64 g.n,.string g.name,kv,.int .i64 c,kf] bx),.blk b4 (.cells #[.int .i64 deep] ce),.blk b5 (.cells #[.pointer (some ⟨bc,0,none⟩)] fh)] S w':=hI
 have hkl:decide ((6:Int)<(ks.length:Int))=!decide (ks.length<=6):=by
  rw [<- decide_not,decide_eq_decide]; omega
 refine ⟨fun t w'=>t=.bool (decide (60<n+1 ∨ 20<deep) || !sq g c ks.length)/\Inv w (bv [dW bc n]) [dW bc (n+1),.blk b3 (.cells #[.int .i64 g.kind,.int .i64 g.n,.string g.name,kv,.int .i64 c,kf] bx),.blk b4 (.cells #[.int .i64 deep] ce),.blk b5 (.cells #[.pointer (some ⟨bc,0,none⟩)] fh)] S w',?_,?_⟩
 ·refine bj hI 3 mE rfl rfl ?_
  refine bR ?_
  refine bj hI 0 aR rfl rfl ?_
  refine hG ?_
  cases h1:decide ((60:Int)<n+1)
  ·have h1:=of_decide_eq_false h1
   repeat (first|refine ab ?_|refine ad (by decide) ?_|refine aa ?_|refine af ?_|refine ag ?_)
   refine bj hI 2 aR rfl rfl ?_
   refine hG ?_
   cases h2:decide ((20:Int)<deep)
   ·have h2:=of_decide_eq_false h2
    rw [decide_eq_false (fun h=>h.elim h1 h2),Bool.false_or,sq]
    repeat (first|refine ab ?_|refine ad (by decide) ?_|refine aa ?_|refine af ?_|refine ag ?_)
    refine bb ct ?_
    refine bY hI 1 [_,_,_,_] al rfl rfl ly ?_
    refine Run.callPure md lB hI (kl hg) fun w' hI=>?_
    refine bJ ?_
    cases h3:eg g
    ·repeat (first|refine ab ?_|refine ad (by decide) ?_|refine aa ?_|refine af ?_|refine ag ?_)
     exact ⟨rfl,hI⟩
    repeat (first|refine ab ?_|refine ad (by decide) ?_|refine aa ?_|refine af ?_|refine ag ?_)
    refine ah hI 1 rfl ch aR rfl ?_
    refine Run.callPure fH fL hI (eN _ _ _ S) fun w' hI=>?_
    refine bJ ?_
    cases h4:(decide (-1<=c) && decide (c<=19))
    ·repeat (first|refine ab ?_|refine ad (by decide) ?_|refine aa ?_|refine af ?_|refine ag ?_)
     exact ⟨rfl,hI⟩
    repeat (first|refine ab ?_|refine ad (by decide) ?_|refine aa ?_|refine af ?_|refine ag ?_)
    refine ah hI 1 rfl bK bT rfl ?_
    refine a5 hks bD ?_
    refine hG ?_
    rw [hkl]
    repeat (first|refine ab ?_|refine ad (by decide) ?_|refine aa ?_|refine af ?_|refine ag ?_)
    exact ⟨rfl,hI⟩
   ·repeat (first|refine ab ?_|refine ad (by decide) ?_|refine aa ?_|refine af ?_|refine ag ?_)
    rw [decide_eq_true (.inr (of_decide_eq_true h2)),Bool.true_or]
    exact ⟨rfl,hI⟩
  ·repeat (first|refine ab ?_|refine ad (by decide) ?_|refine aa ?_|refine af ?_|refine ag ?_)
   rw [decide_eq_true (.inl (of_decide_eq_true h1)),Bool.true_or]
   exact ⟨rfl,hI⟩
 intro q _ _ _ _ _ _ _ _ _ _ _ _ _ _ _ _ _ _ _ _ _ _ _ _ _ w'
 rintro ⟨rfl,hI⟩
 refine bd (fun hb=>?_) (fun hb=>?_)
 ·refine hend (false,n+1) hI rfl ?_
  rw [eu]
  by_cases h1:60<n+1 ∨ 20<deep
  ·rw [if_pos h1]
  ·rw [decide_eq_false h1,Bool.false_or,Bool.not_eq_true'] at hb
   rw [if_neg h1,hb]
   rfl
 ·rw [Bool.or_eq_false_iff,Bool.not_eq_false'] at hb
  have hsc:eu (.mk g c ks) deep n=fC ks (deep+1) (n+1):=by
   rw [eu,if_neg (of_decide_eq_false hb.1),if_pos hb.2]
  have hn60:=of_decide_eq_false hb.1
  refine ah hI 1 rfl bK bT rfl ?_
  refine oA ?_
  have hcb:Cb Tryz.prog tH Tryz.f66 [.pointer (some ⟨b4,0,none⟩),.pointer (some ⟨b5,0,none⟩)] S
    (fun c:Int=>[dW bc c,.blk b4 (.cells #[.int .i64 deep] ce),.blk b5 (.cells #[.pointer (some ⟨bc,0,none⟩)] fh)]) (fun c=>0<=c/\c<=60)
    (fun c t=>(!(eu t (deep+1) c).1,(eu t (deep+1) c).2)) (fun v x=>∃ cs,v=.agg cs.toArray/\RdF S cs x) ks:=by
   refine ⟨qP,qZ,fun st x _ hst hf=>?_,fun st x v hx hst=>?_⟩
   ·have:=A5 x (deep+1) st hst.2 (by simpa using hf)
    omega
   ·rintro ⟨cs,rfl,hcs⟩ w1 hI
    have hl:=hcs.length
    refine m1 ?_
    unfold jE
    refine bt hI fun b w' hI=>?_
    refine a8 hI 3 bS rfl (by simpa [Value.cells] using hl) ?_
    refine bj hI 1 aR rfl rfl ?_
    refine b0 (by omega) ?_
    refine bj hI 2 mE rfl rfl ?_
    have hI:=hI.perm (M:=[.blk b4 (.cells #[.int .i64 deep] ce),.blk b5 (.cells #[.pointer (some ⟨bc,0,none⟩)] fh),.blk b (.cells (Value.agg cs.toArray).cells bx)]++[dW bc st])
     (List.perm_append_comm (l₁:=[_,_,_]) (l₂:=[dW bc st]))
    refine Run.call lK lZ hI (ih x hx S cs (deep+1) st bc hcs (by omega) (by omega) hst.1 hst.2) fun v' I' S' w'=>?_
    rintro ⟨rfl,rfl,rfl⟩ _ hI
    refine bJ ?_
    have hI:=(hI.perm (M:=[dW bc (eu x (deep+1) st).2]++[.blk b4 (.cells #[.int .i64 deep] ce),.blk b5 (.cells #[.pointer (some ⟨bc,0,none⟩)] fh),.blk b (.cells (Value.agg cs.toArray).cells bx)])
     List.perm_append_comm).pick [true,true,true,false]
    exact ⟨_,_,_,rfl,hI,Ext.refl _ _ _,rfl,rfl,rfl⟩
  have hI:=hI.perm (M:=[.blk b3 (.cells #[.int .i64 g.kind,.int .i64 g.n,.string g.name,kv,.int .i64 c,kf] bx)]++[dW bc (n+1),.blk b4 (.cells #[.int .i64 deep] ce),.blk b5 (.cells #[.pointer (some ⟨bc,0,none⟩)] fh)]) (List.Perm.swap _ _ _)
  refine Run.call jt jR hI (lr hcb hks ⟨by omega,by omega⟩) fun v' I' S' w'=>?_
  rintro ⟨rfl,rfl,rfl⟩ _ hI
  refine bJ ?_
  rw [vz] at hI ⊢
  have hI:=hI.perm (M:=[dW bc (fC ks (deep+1) (n+1)).2,.blk b3 (.cells #[.int .i64 g.kind,.int .i64 g.n,.string g.name,kv,.int .i64 c,kf] bx),.blk b4 (.cells #[.int .i64 deep] ce),.blk b5 (.cells #[.pointer (some ⟨bc,0,none⟩)] fh)]) (List.Perm.swap _ _ _)
  exact hend (fC ks (deep+1) (n+1)) hI (by simp) hsc.symm
theorem pn {t:PF} {S:ar} {cs:List Value} (h:RdF S cs t):Pure Tryz.prog vQ [.agg cs.toArray] S (.bool (jf t)):=by
 intro w hI
 have hl:=h.length
 refine oy ?_
 unfold lh
 refine bt hI fun b1 w' hI=>?_
 refine bC hI DO fun b2 w' hI=>?_
 refine gK hI 1 (n:=1) rfl (by rw [aR]; rfl) rfl (Nat.le_of_ble_eq_true rfl) (by simp [Value.cells]; rfl) fun w' hI=>?_
 refine a8 hI 0 bS rfl (by simpa [Value.cells] using hl) ?_
 refine Run.call (A:=[_]) (I:=[dW b2 0]) lK lZ hI (tZ t S cs 1 0 b2 h (by omega) (by omega) (by omega) (by omega)) fun v' I' S' w'=>?_
 rintro ⟨rfl,rfl,rfl⟩ _ hI
 exact done hI (by rw [zS])
theorem vP:∀ (t:PF) (S:ar) (cs:List Value) (d:Int),RdF S cs t->wF t<=1048576->-100<=d->d<=100->Pure Tryz.prog yW [.agg cs.toArray,.int .i64 d] S (.bool (l5 t d)):=by
 refine PF.ind fun g c ks ih S cs d h hw hd0 hd1=>?_
 intro w hI
 obtain ⟨kv,kf,rfl,hg,hc,hks⟩:=RdF.iff.1 h
 simp only [PF.goal,PF.kids,PF.clause] at hg hc hks ⊢
 have hlen:=hks.le
 simp only [maxLen] at hlen
 rw [wF] at hw
 rw [l5]
 refine qV ?_
 unfold ne;dsimp only
 refine bt hI fun b2 w' hI=>?_
 have hI:Inv w [] [.blk b2 (.cells #[.int .i64 g.kind,.int .i64 g.n,.string g.name,kv,.int .i64 c,kf] bx)] S w':=hI
 have hkl:decide ((6:Int)<(ks.length:Int))=!decide (ks.length<=6):=by
  rw [<- decide_not,decide_eq_decide]; omega
 have hcl:decide (c < -1)=!decide (-1<=c):=by rw [<- decide_not,decide_eq_decide]; omega
 have hcg:decide ((20:Int)<=c)=!decide (c<=19):=by rw [<- decide_not,decide_eq_decide]; omega
 have hdl:decide (d<1)=!decide (1<=d):=by rw [<- decide_not,decide_eq_decide]; omega
 refine ⟨fun t w'=>t=.bool (!(decide (1<=d) && sq g c ks.length))/\Inv w [] [.blk b2 (.cells #[.int .i64 g.kind,.int .i64 g.n,.string g.name,kv,.int .i64 c,kf] bx)] S w',?_,?_⟩
 ·refine bz ?_
  rw [hdl,sq]
  cases h1:decide (1<=d)
  ·repeat (first|refine ab ?_|refine ad (by decide) ?_|refine aa ?_|refine af ?_|refine ag ?_)
   exact ⟨rfl,hI⟩
  repeat (first|refine ab ?_|refine ad (by decide) ?_|refine aa ?_|refine af ?_|refine ag ?_)
  refine bb ct ?_
  refine bY hI 0 [_,_,_,_] al rfl rfl ly ?_
  refine Run.callPure lN lC hI (jn hg (by omega)) fun w' hI=>?_
  refine bJ ?_
  cases h3:eg g
  ·repeat (first|refine ab ?_|refine ad (by decide) ?_|refine aa ?_|refine af ?_|refine ag ?_)
   exact ⟨rfl,hI⟩
  repeat (first|refine ab ?_|refine ad (by decide) ?_|refine aa ?_|refine af ?_|refine ag ?_)
  refine ah hI 0 rfl ch aR rfl ?_
  refine bz ?_
  rw [hcl]
  cases h4:decide (-1<=c)
  ·repeat (first|refine ab ?_|refine ad (by decide) ?_|refine aa ?_|refine af ?_|refine ag ?_)
   exact ⟨rfl,hI⟩
  repeat (first|refine ab ?_|refine ad (by decide) ?_|refine aa ?_|refine af ?_|refine ag ?_)
  refine ah hI 0 rfl ch aR rfl ?_
  refine g5 ?_
  rw [hcg]
  cases h5:decide (c<=19)
  ·repeat (first|refine ab ?_|refine ad (by decide) ?_|refine aa ?_|refine af ?_|refine ag ?_)
   exact ⟨rfl,hI⟩
  repeat (first|refine ab ?_|refine ad (by decide) ?_|refine aa ?_|refine af ?_|refine ag ?_)
  refine ah hI 0 rfl bK bT rfl ?_
  refine a5 hks bD ?_
  refine hG ?_
  rw [hkl]
  repeat (first|refine ab ?_|refine ad (by decide) ?_|refine aa ?_|refine af ?_|refine ag ?_)
  exact ⟨rfl,hI⟩
 intro q _ _ _ _ _ _ _ _ _ _ _ _ _ _ _ _ _ _ _ _ _ _ _ w'
 rintro ⟨rfl,hI⟩
 refine bd (fun hb=>done hI ?_) (fun hb=>?_)
 ·rw [Bool.not_eq_true'] at hb
  rw [<- Bool.and_assoc,hb]; rfl
 rw [Bool.not_eq_false',Bool.and_eq_true] at hb
 rw [hb.1,hb.2,Bool.true_and,Bool.true_and]
 refine ⟨fun i w'=>∃ k:Nat,k<=ks.length/\i=.int .i64 k/\nu (ks.drop k) (d - 1)=nu ks (d - 1)/\Inv w [] [.blk b2 (.cells #[.int .i64 g.kind,.int .i64 g.n,.string g.name,kv,.int .i64 c,kf] bx)] S w',
  fun i _=>ks.length - (intOf i).toNat,⟨0,Nat.zero_le _,rfl,rfl,hI⟩,?_⟩
 intro i _ _ _ _ _ _ _ _ _ _ _ _ _ _ _ _ _ w'
 rintro ⟨k,hk,rfl,hrel,hI⟩
 refine ah hI 0 rfl bK bT rfl ?_
 refine a5 hks bD ?_
 refine bz ?_
 refine bf (fun hki=>?_) (fun hki=>?_)
 ·have hk':k<ks.length:=by omega
  have hm:=List.getElem_mem hk'
  have hwm:=zb hm
  rw [List.drop_eq_getElem_cons hk',nu] at hrel
  refine ah hI 0 rfl bK bT rfl ?_
  refine cj hI hks bD bS hk' (fun _ _=>RdF.length) fun ds hds=>?_
  refine jA (by omega) ?_
  have hge:1<=d:=of_decide_eq_true hb.1
  refine Run.callPure nL nN hI (ih _ hm S ds (d - 1) hds (by omega) (by omega) (by omega)) fun w' hI=>?_
  refine bJ ?_
  refine bd (fun hne=>done hI ?_) (fun he=>?_)
  ·rw [Bool.not_eq_true'] at hne
   rw [<- hrel,hne]; rfl
  ·rw [Bool.not_eq_false'] at he
   rw [he,Bool.true_and] at hrel
   refine b0 (by omega) ?_
   exact ⟨⟨k+1,hk',rfl,hrel,hI⟩,by simp [intOf]; omega⟩
 ·have:k=ks.length:=by omega
  subst this
  exact done hI (by rw [<- hrel,List.drop_length]; rfl)
theorem wM:∀ (t:PF) (S:ar) (cs:List Value) (m:Int),RdF S cs t->0<=m->m<=1000000->Pure Tryz.prog zL [.agg cs.toArray,.int .i64 m] S (.int .i64 (ni t m)):=by
 refine PF.ind fun g c ks ih S cs m h hm0 hm1=>?_
 intro w hI
 obtain ⟨kv,kf,rfl,hg,hc,hks⟩:=RdF.iff.1 h
 simp only [PF.goal,PF.kids,PF.clause] at hg hc hks ⊢
 have hlen:=hks.le
 simp only [maxLen] at hlen
 rw [ni]
 refine tC ?_
 unfold qJ
 refine bt hI fun b2 w' hI=>?_
 have hI:Inv w [] [.blk b2 (.cells #[.int .i64 g.kind,.int .i64 g.n,.string g.name,kv,.int .i64 c,kf] bx)] S w':=hI
 refine ⟨fun i t w'=>∃ (k:Nat) (n:Int),k<=ks.length/\i=.int .i64 k/\t=.int .i64 n/\1<=n/\n<=m+1/\gr (ks.drop k) n m=gr ks 1 m/\Inv w [] [.blk b2 (.cells #[.int .i64 g.kind,.int .i64 g.n,.string g.name,kv,.int .i64 c,kf] bx)] S w',
  fun i _ _=>ks.length - (intOf i).toNat,⟨0,1,Nat.zero_le _,rfl,rfl,by omega,by omega,rfl,hI⟩,?_⟩
 intro i _ _ t _ _ _ _ _ _ _ _ _ _ _ _ _ _ _ _ _ _ _ _ _ w'
 rintro ⟨k,n,hk,rfl,rfl,hn0,hn1,hrel,hI⟩
 refine ⟨fun q w'=>q=.bool (decide (k<ks.length) && decide (n<=m))/\Inv w [] [.blk b2 (.cells #[.int .i64 g.kind,.int .i64 g.n,.string g.name,kv,.int .i64 c,kf] bx)] S w',?_,?_⟩
 ·refine ah hI 0 rfl bK bT rfl ?_
  refine a5 hks bD ?_
  refine bz ?_
  have el:decide ((k:Int)<(ks.length:Int))=decide (k<ks.length):=by rw [decide_eq_decide]; omega
  rw [el]
  cases h1:decide (k<ks.length)
  ·repeat (first|refine ab ?_|refine ad (by decide) ?_|refine aa ?_|refine af ?_|refine ag ?_)
   exact ⟨rfl,hI⟩
  repeat (first|refine ab ?_|refine ad (by decide) ?_|refine aa ?_|refine af ?_|refine ag ?_)
  refine gi ?_
  repeat (first|refine ab ?_|refine ad (by decide) ?_|refine aa ?_|refine af ?_|refine ag ?_)
  exact ⟨rfl,hI⟩
 intro q _ _ _ _ _ _ _ _ _ w'
 rintro ⟨rfl,hI⟩
 refine bd (fun hb=>?_) (fun hb=>?_)
 ·rw [Bool.and_eq_true,decide_eq_true_eq,decide_eq_true_eq] at hb
  obtain ⟨hk',hnm⟩:=hb
  have hm:=List.getElem_mem hk'
  rw [List.drop_eq_getElem_cons hk',gr,if_pos hnm] at hrel
  obtain ⟨s1,s2,_,_⟩:=u0 ks[k] (m - n) (by omega)
  refine ah hI 0 rfl bK bT rfl ?_
  refine cj hI hks bD bS hk' (fun _ _=>RdF.length) fun ds hds=>?_
  refine jA (by omega) ?_
  refine Run.callPure qz qI hI (ih _ hm S ds (m - n) hds (by omega) (by omega)) fun w' hI=>?_
  refine b0 (by omega) ?_
  refine b0 (by omega) ?_
  exact ⟨⟨k+1,_,hk',rfl,rfl,by omega,by omega,hrel,hI⟩,by simp [intOf]; omega⟩
 ·refine done hI ?_
  rw [<- hrel]
  by_cases hk':k<ks.length
  ·rw [decide_eq_true hk',Bool.true_and] at hb
   rw [List.drop_eq_getElem_cons hk',gr,if_neg (of_decide_eq_false hb)]
  ·have:k=ks.length:=by omega
   subst this
   rw [List.drop_length,gr]
theorem qn {t:PF} {S:ar} {cs:List Value} (h:RdF S cs t) (hw:wF t<=1048576):Pure Tryz.prog vD [.agg cs.toArray] S (.bool (jf t)):=by
 intro w hI
 have hl:=h.length
 refine nZ ?_
 unfold k4
 refine bt hI fun b1 w' hI=>?_
 refine a8 hI 0 bS rfl (by simpa [Value.cells] using hl) ?_
 refine Run.callPure nL nN hI (vP t S cs 20 h hw (by omega) (by omega)) fun w' hI=>?_
 rw [jf]
 cases hs:l5 t 20
 ·repeat (first|refine ab ?_|refine ad (by decide) ?_|refine aa ?_|refine af ?_|refine ag ?_)
  exact done hI rfl
 repeat (first|refine ab ?_|refine ad (by decide) ?_|refine aa ?_|refine af ?_|refine ag ?_)
 refine a8 hI 0 bS rfl (by simpa [Value.cells] using hl) ?_
 refine Run.callPure qz qI hI (wM t S cs 60 h (by omega) (by omega)) fun w' hI=>?_
 refine gi ?_
 rw [Dr]
 repeat (first|refine ab ?_|refine ad (by decide) ?_|refine aa ?_|refine af ?_|refine ag ?_)
 exact done hI rfl
end
end Go.Proofs.YtfcbhfjomgopbaaGreat

/- Whether terms are the same: both sides. -/
namespace Go.Proofs.YtfcbhfjomgopbaaGreat
open Go Go.RowKit
attribute [local irreducible] Run CondV ak bg

def gd (t u:T):Bool:=decide (t.kind=u.kind) && (decide (t.n=u.n) && (decide (t.name=u.name) && decide (t.kids.length=u.kids.length)))
theorem cQ (k n k' n':Int) (s s':ByteArray) (ks ks':List T):gd (.mk k n s ks) (.mk k' n' s' ks')=(decide (k=k') && (decide (n=n') && (decide (s=s') && decide (ks.length=ks'.length)))):=rfl
theorem z3 {α β:Type} (a:List α) (b:List β):decide (a.length=b.length)=decide ((a.length:Int)=(b.length:Int)):=by
 rw [Bool.eq_iff_iff]
 simp only [decide_eq_true_eq]
 omega
theorem FH (t u:T):eqT t u=(gd t u && eqL t.kids u.kids):=by
 obtain ⟨k,n,s,ks⟩:=t
 obtain ⟨k',n',s',ks'⟩:=u
 rw [eqT,cQ]
 by_cases h:ks.length=ks'.length
 ·rw [decide_eq_true h,Bool.and_true,Bool.and_assoc,Bool.and_assoc]; rfl
 ·rw [y6 h,decide_eq_false h]; simp
theorem jz:∀ (t u:T) (S:ar) (cs ds:List Value),RdT S cs t->RdT S ds u->Pure Tryz.prog yT [.agg cs.toArray,.agg ds.toArray] S (.bool (eqT t u)):=by
 refine T.ind fun k n s ks ih u S cs ds h h'=>?_
 intro w hI
 obtain ⟨kv,rfl,_,_,_,hks⟩:=RdT.iff.1 h
 obtain ⟨kv',rfl,_,_,_,hks'⟩:=RdT.iff.1 h'
 obtain ⟨k',n',s',ks'⟩:=u
 simp only [T.name,T.kids,T.kind,T.n] at hks hks' ⊢
 have hlen:=hks.le
 simp only [maxLen] at hlen
 refine rN ?_
 unfold nq;dsimp only
 refine bt hI fun b1 w' hI=>?_
 refine bt hI fun b2 w' hI=>?_
 have hI:Inv w [] [.blk b1 (.cells #[.int .i64 k,.int .i64 n,.string s,kv] ac),.blk b2 (.cells #[.int .i64 k',.int .i64 n',.string s',kv'] ac)] S w':=hI
 refine ⟨fun q w'=>q=.bool (!gd (.mk k n s ks) (.mk k' n' s' ks'))/\Inv w [] [.blk b1 (.cells #[.int .i64 k,.int .i64 n,.string s,kv] ac),.blk b2 (.cells #[.int .i64 k',.int .i64 n',.string s',kv'] ac)] S w',?_,?_⟩
 ·refine ah hI 0 rfl aU aR rfl ?_
  refine ah hI 1 rfl aU aR rfl ?_
  refine bQ ?_
  by_cases e1:k=k'
  ·rw [decide_eq_true e1]
   repeat (first|refine ab ?_|refine ad (by decide) ?_|refine aa ?_|refine af ?_|refine ag ?_)
   refine ah hI 0 rfl a9 aR rfl ?_
   refine ah hI 1 rfl a9 aR rfl ?_
   refine bQ ?_
   by_cases e2:n=n'
   ·rw [decide_eq_true e2]
    repeat (first|refine ab ?_|refine ad (by decide) ?_|refine aa ?_|refine af ?_|refine ag ?_)
    refine ah hI 0 rfl bi bk rfl ?_
    refine ah hI 1 rfl bi bk rfl ?_
    refine qM ?_
    by_cases e3:s=s'
    ·rw [decide_eq_true e3]
     repeat (first|refine ab ?_|refine ad (by decide) ?_|refine aa ?_|refine af ?_|refine ag ?_)
     refine ah hI 0 rfl aP aO rfl ?_
     refine a5 hks aC ?_
     refine ah hI 1 rfl aP aO rfl ?_
     refine a5 hks' aC ?_
     refine bQ ?_
     repeat (first|refine ab ?_|refine ad (by decide) ?_|refine aa ?_|refine af ?_|refine ag ?_)
     exact ⟨by rw [cQ,decide_eq_true e1,decide_eq_true e2,decide_eq_true e3,z3]; rfl,hI⟩
    ·rw [decide_eq_false e3]
     repeat (first|refine ab ?_|refine ad (by decide) ?_|refine aa ?_|refine af ?_|refine ag ?_)
     exact ⟨by rw [cQ,decide_eq_true e1,decide_eq_true e2,decide_eq_false e3]; rfl,hI⟩
   ·rw [decide_eq_false e2]
    repeat (first|refine ab ?_|refine ad (by decide) ?_|refine aa ?_|refine af ?_|refine ag ?_)
    exact ⟨by rw [cQ,decide_eq_true e1,decide_eq_false e2]; rfl,hI⟩
  ·rw [decide_eq_false e1]
   repeat (first|refine ab ?_|refine ad (by decide) ?_|refine aa ?_|refine af ?_|refine ag ?_)
   exact ⟨by rw [cQ,decide_eq_false e1]; rfl,hI⟩

 intro q _ _ _ _ _ _ _ _ _ _ _ _ _ _ _ _ _ _ _ _ _ _ _ _ _ _ _ w'
 rintro ⟨rfl,hI⟩
 rw [FH]
 cases hd:gd (.mk k n s ks) (.mk k' n' s' ks')
 ·refine bd (fun _=>done hI rfl) (fun hb=>by cases hb)
 refine bd (fun hb=>by cases hb) (fun _=>?_)
 have hle:ks.length=ks'.length:=by
  rw [cQ] at hd
  simp only [Bool.and_eq_true,decide_eq_true_eq] at hd
  exact hd.2.2.2
 simp only [T.kids,Bool.true_and]
 refine ⟨fun i w'=>∃ j:Nat,j<=ks.length/\i=.int .i64 j/\eqL (ks.drop j) (ks'.drop j)=eqL ks ks'/\Inv w [] [.blk b1 (.cells #[.int .i64 k,.int .i64 n,.string s,kv] ac),.blk b2 (.cells #[.int .i64 k',.int .i64 n',.string s',kv'] ac)] S w',fun i _=>ks.length - (intOf i).toNat,⟨0,Nat.zero_le _,rfl,rfl,hI⟩,?_⟩
 intro t5 _ _ _ _ _ _ _ _ _ _ _ _ _ _ _ _ _ _ _ _ w'
 rintro ⟨j,hj,rfl,hrel,hI⟩
 refine ah hI 0 rfl aP aO rfl ?_
 refine a5 hks aC ?_
 refine bz ?_
 refine bf (fun hji=>?_) (fun hji=>?_)
 ·have hj1:j<ks.length:=by omega
  have hj2:j<ks'.length:=by omega
  obtain ⟨c1,o1,cap1,a1,E1,fz1,rfl,hS1,hR1⟩:=hks.at_ hj1
  obtain ⟨c2,o2,cap2,a2,E2,fz2,rfl,hS2,hR2⟩:=hks'.at_ hj2
  have hstep:eqL (ks.drop j) (ks'.drop j)=(eqT ks[j] ks'[j] && eqL (ks.drop (j+1)) (ks'.drop (j+1))):=by
   rw [List.drop_eq_getElem_cons hj1,List.drop_eq_getElem_cons hj2,eqL]
  refine ⟨fun D eH eL eK eJ eI cU cW df da cC cD cr w_=>(D 0=true->cr=.pointer (some ⟨b1,3,none⟩))/\(D 1=true->cD=.slice (some ⟨c1,o1,none⟩) ks.length cap1)/\(D 2=true->cC=.int .i64 j)/\(D 3=true->da=.pointer (some ⟨c1,o1+j * 4,none⟩))/\(D 4=true->df=.agg (ba a1 (o1+j * 4) 4).toArray)/\(D 5=true->cW=.pointer (some ⟨b2,3,none⟩))/\(D 6=true->cU=.slice (some ⟨c2,o2,none⟩) ks'.length cap2)/\(D 7=true->eI=.int .i64 j)/\(D 8=true->eJ=.pointer (some ⟨c2,o2+j * 4,none⟩))/\(D 9=true->eK=.agg (ba a2 (o2+j * 4) 4).toArray)/\(D 10=true->eL=.bool (eqT ks[j] ks'[j]))/\(D 11=true->eH=.bool (!eqT ks[j] ks'[j]))/\Inv w [] [.blk b1 (.cells #[.int .i64 k,.int .i64 n,.string s,.slice (some ⟨c1,o1,none⟩) ks.length cap1] ac),.blk b2 (.cells #[.int .i64 k',.int .i64 n',.string s',.slice (some ⟨c2,o2,none⟩) ks'.length cap2] ac)] S w_,⟨ae,ae,ae,ae,ae,ae,ae,ae,ae,ae,ae,ae,hI.draw⟩,⟨?_,?_,?_,?_,?_,?_,?_,?_,?_,?_,?_,?_,trivial⟩,?_⟩
  ·intro D aY  eH eL eK eJ eI cU cW df da cC cD cr w_
   rintro ⟨av,aw,ao,au,az,aq,aA,aE,aH,aL,ai,aj,hI⟩
   refine bb aP ?_
   exact ⟨fun _=>rfl,aw,ao,au,az,aq,aA,aE,aH,aL,ai,aj,hI⟩
  ·intro D aY cB eH eL eK eJ eI cU cW df da cC cD cr w_
   rintro ⟨av,aw,ao,au,az,aq,aA,aE,aH,aL,ai,aj,hI⟩
   obtain rfl:=av cB
   refine bj hI 0 aO rfl rfl ?_
   exact ⟨av,fun _=>rfl,ao,au,az,aq,aA,aE,aH,aL,ai,aj,hI⟩
  ·intro D aY  eH eL eK eJ eI cU cW df da cC cD cr w_
   rintro ⟨av,aw,ao,au,az,aq,aA,aE,aH,aL,ai,aj,hI⟩
   exact ⟨av,aw,fun _=>rfl,au,az,aq,aA,aE,aH,aL,ai,aj,hI⟩
  ·intro D aY c6 d8 eH eL eK eJ eI cU cW df da cC cD cr w_
   rintro ⟨av,aw,ao,au,az,aq,aA,aE,aH,aL,ai,aj,hI⟩
   obtain rfl:=aw c6
   obtain rfl:=ao d8
   refine aT aC hj1 ?_
   exact ⟨av,aw,ao,fun _=>rfl,az,aq,aA,aE,aH,aL,ai,aj,hI⟩
  ·intro D aY dq eH eL eK eJ eI cU cW df da cC cD cr w_
   rintro ⟨av,aw,ao,au,az,aq,aA,aE,aH,aL,ai,aj,hI⟩
   obtain rfl:=au dq
   refine bw al hR1.length (fun j v hj=>by rw [hI.cellS hS1]; exact aS rfl j v hj) ?_
   exact ⟨av,aw,ao,au,fun _=>rfl,aq,aA,aE,aH,aL,ai,aj,hI⟩
  ·intro D aY  eH eL eK eJ eI cU cW df da cC cD cr w_
   rintro ⟨av,aw,ao,au,az,aq,aA,aE,aH,aL,ai,aj,hI⟩
   refine bb aP ?_
   exact ⟨av,aw,ao,au,az,fun _=>rfl,aA,aE,aH,aL,ai,aj,hI⟩
  ·intro D aY cY eH eL eK eJ eI cU cW df da cC cD cr w_
   rintro ⟨av,aw,ao,au,az,aq,aA,aE,aH,aL,ai,aj,hI⟩
   obtain rfl:=aq cY
   refine bj hI 1 aO rfl rfl ?_
   exact ⟨av,aw,ao,au,az,aq,fun _=>rfl,aE,aH,aL,ai,aj,hI⟩
  ·intro D aY  eH eL eK eJ eI cU cW df da cC cD cr w_
   rintro ⟨av,aw,ao,au,az,aq,aA,aE,aH,aL,ai,aj,hI⟩
   exact ⟨av,aw,ao,au,az,aq,aA,fun _=>rfl,aH,aL,ai,aj,hI⟩
  ·intro D aY ci gY eH eL eK eJ eI cU cW df da cC cD cr w_
   rintro ⟨av,aw,ao,au,az,aq,aA,aE,aH,aL,ai,aj,hI⟩
   obtain rfl:=aA ci
   obtain rfl:=aE gY
   refine aT aC hj2 ?_
   exact ⟨av,aw,ao,au,az,aq,aA,aE,fun _=>rfl,aL,ai,aj,hI⟩
  ·intro D aY dN eH eL eK eJ eI cU cW df da cC cD cr w_
   rintro ⟨av,aw,ao,au,az,aq,aA,aE,aH,aL,ai,aj,hI⟩
   obtain rfl:=aH dN
   refine bw al hR2.length (fun j v hj=>by rw [hI.cellS hS2]; exact aS rfl j v hj) ?_
   exact ⟨av,aw,ao,au,az,aq,aA,aE,aH,fun _=>rfl,ai,aj,hI⟩
  ·intro D aY cZ iJ eH eL eK eJ eI cU cW df da cC cD cr w_
   rintro ⟨av,aw,ao,au,az,aq,aA,aE,aH,aL,ai,aj,hI⟩
   obtain rfl:=az cZ
   obtain rfl:=aL iJ
   refine Run.callPure jb i8 hI (ih _ (List.getElem_mem hj1) _ S _ _ hR1 hR2) fun w_ hI=>?_
   exact ⟨av,aw,ao,au,az,aq,aA,aE,aH,aL,fun _=>rfl,aj,hI⟩
  ·intro D aY eo eH eL eK eJ eI cU cW df da cC cD cr w_
   rintro ⟨av,aw,ao,au,az,aq,aA,aE,aH,aL,ai,aj,hI⟩
   obtain rfl:=ai eo
   refine bJ ?_
   exact ⟨av,aw,ao,au,az,aq,aA,aE,aH,aL,ai,fun _=>rfl,hI⟩
  intro D dO d7 hY gh fB fk fi e9 fe eQ eZ e8 eH eL eK eJ eI cU cW df da cC cD cr w_
  rintro ⟨av,aw,ao,au,az,aq,aA,aE,aH,aL,ai,aj,hI⟩
  obtain rfl:=aj dO
  obtain rfl:=ai d7
  obtain rfl:=aL hY
  obtain rfl:=aH gh
  obtain rfl:=aE fB
  obtain rfl:=aA fk
  obtain rfl:=aq fi
  obtain rfl:=az e9
  obtain rfl:=au fe
  obtain rfl:=ao eQ
  obtain rfl:=aw eZ
  obtain rfl:=av e8
  clear av aw ao au az aq aA aE aH aL ai aj
  refine bd (fun hne=>?_) (fun he'=>?_)
  ·exact done hI (by rw [<- hrel,hstep]; simp at hne; rw [hne]; rfl)
  ·refine b0 (by omega) ?_
   refine ⟨⟨j+1,hj1,rfl,?_,hI⟩,by simp [intOf]; omega⟩
   rw [<- hrel,hstep]
   simp at he'
   rw [he',Bool.true_and]
 ·have:j=ks.length:=by omega
  subst this
  refine done hI ?_
  rw [<- hrel,List.drop_length,hle,List.drop_length]
  rfl

end Go.Proofs.YtfcbhfjomgopbaaGreat

/- Whether terms are the same: the program's side. -/
namespace Go.Proofs.YtfcbhfjomgopbaaGreat
open Go Go.RowKit
attribute [local irreducible] Run CondV ak bg

theorem yN {xs:List T} (ih:∀ t∈xs,∀ (u:T) (S:ar) (cs ds:List Value),RdT S cs t->RdT S ds u->Pure Tryz.prog kP [.agg cs.toArray,.agg ds.toArray] S (.bool (eqT t u)))
  {ys:List T} {S:ar} {v u:Value} (h:RdSl S 4 (RdT S) v xs) (h':RdSl S 4 (RdT S) u ys):Pure Tryz.prog nT [v,u,.func (.func kP) #[] #[]] S (.bool (eqL xs ys)):=by
 intro w hI
 have hlen:(xs.length:Int)<=9223372036854775807:=by have:=h.le; simp only [maxLen] at this; omega
 refine kz ?_
 unfold g8
 refine a5 h aC ?_
 refine a5 h' aC ?_
 refine bQ ?_
 refine bd (fun hne=>?_) (fun he=>?_)
 ·exact done hI (by rw [y6 (by simp at hne; omega)])
 have he:xs.length=ys.length:=by simp at he; omega
 refine a5 h aC ?_
 refine ⟨fun i w'=>∃ (k:Nat),k<=xs.length/\i=.int .i64 k/\eqL (xs.drop k) (ys.drop k)=eqL xs ys/\Inv w [] [] S w',fun i _=>xs.length - (intOf i).toNat,⟨0,Nat.zero_le _,rfl,rfl,hI⟩,?_⟩
 intro t5 _ _ _ _ _ _ _ _ _ _ _ _ _ _ _ _ _ _ w'
 rintro ⟨k,hk,rfl,hrel,hI⟩
 refine bz ?_
 refine bf (fun hki=>?_) (fun hki=>?_)
 ·have hk1:k<xs.length:=by omega
  have hk2:k<ys.length:=by omega
  have hstep:eqL (xs.drop k) (ys.drop k)=(eqT xs[k] ys[k] && eqL (xs.drop (k+1)) (ys.drop (k+1))):=by
   rw [List.drop_eq_getElem_cons hk1,List.drop_eq_getElem_cons hk2,eqL]
  refine cj hI h aC al hk1 (fun _ _=>RdT.length) fun cs hcs=>?_
  have hlc:=hcs.length
  refine bC hI bA fun b8 w' hI=>?_
  refine bq hI 0 rfl al (by simpa using hlc) rfl (by simpa using hcs.one) fun w' hI=>?_
  refine cj hI h' aC al hk2 (fun _ _=>RdT.length) fun ds hds=>?_
  have hld:=hds.length
  refine bC hI bA fun b9 w' hI=>?_
  refine bq hI 1 rfl al (by simpa using hld) rfl (by simpa using hds.one) fun w' hI=>?_
  refine a8 hI 0 al rfl (by simpa using hlc) ?_
  refine a8 hI 1 al rfl (by simpa using hld) ?_
  refine Run.callPure jc i6 hI (ih _ (List.getElem_mem hk1) _ S _ _ hcs hds) fun w' hI=>?_
  refine bJ ?_
  refine bd (fun hne=>?_) (fun he'=>?_)
  ·exact done hI (by rw [<- hrel,hstep]; simp at hne; rw [hne]; rfl)
  ·refine b0 (by omega) ?_
   refine ⟨⟨k+1,hk1,rfl,?_,hI.nil⟩,by simp [intOf]; omega⟩
   rw [<- hrel,hstep]
   simp at he'
   rw [he',Bool.true_and]
 ·have:k=xs.length:=by omega
  subst this
  refine done hI ?_
  rw [<- hrel,List.drop_length,he,List.drop_length]
  rfl
theorem kk:∀ (t u:T) (S:ar) (cs ds:List Value),RdT S cs t->RdT S ds u->Pure Tryz.prog kP [.agg cs.toArray,.agg ds.toArray] S (.bool (eqT t u)):=by
 refine T.ind fun k n s ks ih u S cs ds h h'=>?_
 intro w hI
 obtain ⟨kv,rfl,_,_,_,hks⟩:=RdT.iff.1 h
 obtain ⟨kv',rfl,_,_,_,hks'⟩:=RdT.iff.1 h'
 obtain ⟨k',n',s',ks'⟩:=u
 simp only [T.name,T.kids,T.kind,T.n] at hks hks' ⊢
 refine ri ?_
 unfold nD;dsimp only
 refine bt hI fun b1 w' hI=>?_
 refine bt hI fun b2 w' hI=>?_
 refine ah hI 0 rfl aU aR rfl ?_
 refine ah hI 1 rfl aU aR rfl ?_
 refine bu ?_
 by_cases e1:k=k'
 ·rw [decide_eq_true e1]
  repeat (first|refine ab ?_|refine ad (by decide) ?_|refine aa ?_|refine af ?_|refine ag ?_)
  refine ah hI 0 rfl a9 aR rfl ?_
  refine ah hI 1 rfl a9 aR rfl ?_
  refine bu ?_
  by_cases e2:n=n'
  ·rw [decide_eq_true e2]
   repeat (first|refine ab ?_|refine ad (by decide) ?_|refine aa ?_|refine af ?_|refine ag ?_)
   refine ah hI 0 rfl bi bk rfl ?_
   refine ah hI 1 rfl bi bk rfl ?_
   refine bm ?_
   by_cases e3:s=s'
   ·rw [decide_eq_true e3]
    repeat (first|refine ab ?_|refine ad (by decide) ?_|refine aa ?_|refine af ?_|refine ag ?_)
    refine ah hI 0 rfl aP aO rfl ?_
    refine ah hI 1 rfl aP aO rfl ?_
    refine Run.callPure mW mY hI (yN ih hks hks') fun w' hI=>?_
    repeat (first|refine ab ?_|refine ad (by decide) ?_|refine aa ?_|refine af ?_|refine ag ?_)
    exact done hI (by rw [eqT,decide_eq_true e1,decide_eq_true e2,decide_eq_true e3]; rfl)
   ·rw [decide_eq_false e3]
    repeat (first|refine ab ?_|refine ad (by decide) ?_|refine aa ?_|refine af ?_|refine ag ?_)
    exact done hI (by rw [eqT,decide_eq_true e1,decide_eq_true e2,decide_eq_false e3]; rfl)
  ·rw [decide_eq_false e2]
   repeat (first|refine ab ?_|refine ad (by decide) ?_|refine aa ?_|refine af ?_|refine ag ?_)
   exact done hI (by rw [eqT,decide_eq_true e1,decide_eq_false e2]; rfl)
 ·rw [decide_eq_false e1]
  repeat (first|refine ab ?_|refine ad (by decide) ?_|refine aa ?_|refine af ?_|refine ag ?_)
  exact done hI (by rw [eqT,decide_eq_false e1]; rfl)

end Go.Proofs.YtfcbhfjomgopbaaGreat

/- Maps from numbers to terms. -/
namespace Go.Proofs.YtfcbhfjomgopbaaGreat
open Go Go.RowKit

theorem mD {n:Int}:∀ (l:List MapEntry) (i:Nat),(∀ e∈l,∃ m,e.key=.int .i64 m)->
  (∃ j,∃ e∈l,e.key=.int .i64 n/\Instr.findNow (.int .i64) (.int .i64 n) l i=some (some (j,e.val))) ∨ ((∀ e∈l,e.key≠.int .i64 n)/\Instr.findNow (.int .i64) (.int .i64 n) l i=some none)
 | [],i,_=>.inr ⟨by simp,rfl⟩
 | e::l,i,h=>by
  obtain ⟨m,hm⟩:=h e (List.mem_cons_self ..)
  have hs:Instr.sameNow (.int .i64) (.int .i64 n) e.key=some (n == m):=by rw [hm]; rfl
  by_cases hnm:n=m
  ·refine .inl ⟨i,e,List.mem_cons_self ..,by rw [hm,hnm],?_⟩
   have:(n == m)=true:=by simpa using hnm
   rw [Instr.findNow,hs,this]
  ·have h2:(n == m)=false:=by simpa using hnm
   rcases mD l (i+1) (fun e he=>h e (List.mem_cons_of_mem _ he)) with ⟨j,e',he',hk,hf⟩|⟨hk,hf⟩
   ·exact .inl ⟨j,e',List.mem_cons_of_mem _ he',hk,by rw [Instr.findNow,hs,h2]; exact hf⟩
   ·refine .inr ⟨fun x hx=>?_,by rw [Instr.findNow,hs,h2]; exact hf⟩
    rcases List.mem_cons.1 hx with rfl|hx
    ·rw [hm]
     intro e'
     simp only [Value.int.injEq,true_and] at e'
     exact hnm e'.symm
    ·exact hk x hx
section
variable {P:Program} {w w0:World} {X:List Nat} {L:List Item} {S:ar} {K:Value->World->Prop}
attribute [local irreducible] Run CondV ak bg
theorem eY {kt:TypeId} {d:TypeDesc} {k:Value} {l:List MapEntry} {a:Option (Nat × Value)} (hd:P.underlying kt=some d) (h:Instr.findNow d k l 0=some a):(Instr.findKey kt k l).run P w=.ok a w:=by
 simp [Instr.findKey,run_underlying hd,Result.andThen,h]
theorem rz (h:Inv w0 X L S w) {T ty:TypeId} (hk:∀ b w',Inv w0 X (L++[.blk b (.map #[] 0)]) S w'->K (.map (some b)) w'):Run P (sOp (.makeMap T none) ty) w K:=by
 refine Run.of (v:=.map (some w.heap.size)) (w':={ w with heap:=w.heap.push (.map #[] 0) }) ?_ (hk _ _ (h.alloc _))
 simp [sOp,execOp,Instr.makeMap,newObj,Sem.run]
theorem AY (h:Inv w0 X L S w) {T kt et ty:TypeId} {b clock:Nat} {es:Array MapEntry} {n:Int} {z v:Value} {ok:Bool} (i:Nat) (hT:P.underlying T=some (.map kt et)) (hkt:P.underlying kt=some (.int .i64))
  (hz:gm P et=some z) (hi:L[i]?=some (.blk b (.map es clock)))
  (hf:(∃ j,Instr.findNow (.int .i64) (.int .i64 n) es.toList 0=some (some (j,v))/\ok=true) ∨ (Instr.findNow (.int .i64) (.int .i64 n) es.toList 0=some none/\v=z/\ok=false))
  (hk:K (.tuple #[v,.bool ok]) w):Run P (sOp (.lookup T (.const (.map (some b))) (.const (.int .i64 n)) true) ty) w K:=by
 have hb:w.heap[b]?=some (.map es clock):=h.its _ (List.mem_of_getElem? hi)
 have hck:∀ e,(Instr.checkKey e 10000 kt (.int .i64 n)).run P w=.ok () w:=fun e=>by
  rw [show (10000:Nat)=9999+1 from rfl,Instr.checkKey]
  simp [run_underlying hkt]
 obtain ⟨inf,hi1,hi2⟩:∃ inf,P.info? et=some inf/\inf.zero=some z:=by
  unfold gm at hz
  cases hinf:P.info? et with
  | none=>rw [hinf] at hz; simp at hz
  | some inf=>rw [hinf] at hz; exact ⟨inf,rfl,by simpa using hz⟩
 have hzv:(zeroValue et).run P w=.ok z w:=by simp [zeroValue,typeInfo,hi1,hi2]
 refine Run.of ?_ hk
 have hg:(getObj b).run P w=.ok (.map es clock) w:=by simp [getObj,Sem.run,hb]
 rcases hf with ⟨j,hf,rfl⟩|⟨hf,rfl,rfl⟩
 ·have hfk:=eY (P:=P) (w:=w) hkt hf
  simp [sOp,execOp,ev0,evE,Instr.lookup,run_underlying hT,hg,hck,hfk]
 ·have hfk:=eY (P:=P) (w:=w) hkt hf
  simp [sOp,execOp,ev0,evE,Instr.lookup,run_underlying hT,hg,hck,hfk,hzv]
theorem uu (h:Inv w0 X L S w) {T kt et ty:TypeId} {b clock:Nat} {es:Array MapEntry} {n:Int} {v:Value} (i:Nat) (hT:P.underlying T=some (.map kt et)) (hkt:P.underlying kt=some (.int .i64))
  (hi:L[i]?=some (.blk b (.map es clock))) (hf:Instr.findNow (.int .i64) (.int .i64 n) es.toList 0=some none)
  (hk:∀ w',Inv w0 X (L.set i (.blk b (.map (es.push { key:=.int .i64 n,val:=v,born:=clock }) (clock+1)))) S w'->K undef w') :
  Run P (sOp (.mapUpdate T (.const (.map (some b))) (.const (.int .i64 n)) (.const v)) ty) w K:=by
 have hb:w.heap[b]?=some (.map es clock):=h.its _ (List.mem_of_getElem? hi)
 have hck:∀ e,(Instr.checkKey e 10000 kt (.int .i64 n)).run P w=.ok () w:=fun e=>by
  rw [show (10000:Nat)=9999+1 from rfl,Instr.checkKey]
  simp [run_underlying hkt]
 have hg:(getObj b).run P w=.ok (.map es clock) w:=by simp [getObj,Sem.run,hb]
 have hfk:=eY (P:=P) (w:=w) hkt hf
 refine Run.ofSkip (w':={ w with heap:=w.heap.setIfInBounds b (.map (es.push { key:=.int .i64 n,val:=v,born:=clock }) (clock+1)) }) ?_ (hk _ (h.setBlk hi _ rfl))
 have hst:(setObj b (.map (es.push { key:=.int .i64 n,val:=v,born:=clock }) (clock+1))).run P w=.ok () { w with heap:=w.heap.setIfInBounds b (.map (es.push { key:=.int .i64 n,val:=v,born:=clock }) (clock+1)) }:=by simp [setObj,Sem.run,hb]
 simp [sOp,execOp,ev0,evE,Instr.mapUpdate,run_underlying hT,hg,hck,hfk,hst]
end

end Go.Proofs.YtfcbhfjomgopbaaGreat

/- Matching a general term to a special one: the plain form, and spec.l3Match. -/
namespace Go.Proofs.YtfcbhfjomgopbaaGreat
open Go Go.RowKit

abbrev a6:=List (Option T)
mutual
def bE:T->T->a6->Bool × a6
 | .mk k n s ks,u,st=>if k=1 then (match st[n.toNat]? with
   | some (some t)=>(eqT t u,st)
   | _=>(true,st.set n.toNat (some u)))
  else if gd (.mk k n s ks) u=true then fF ks u.kids st else (false,st)
def fF:List T->List T->a6->Bool × a6
 | [],_,st=>(true,st)
 | _::_,[],st=>(true,st)
 | t::ts,u::us,st=>if (bE t u st).1=true then fF ts us (bE t u st).2 else (false,(bE t u st).2)
end
theorem sN (ts us:List T) (st:a6) (j:Nat) (h:j<ts.length) (h':j<us.length) :
  fF (ts.drop j) (us.drop j) st=if (bE ts[j] us[j] st).1=true then fF (ts.drop (j+1)) (us.drop (j+1)) (bE ts[j] us[j] st).2 else (false,(bE ts[j] us[j] st).2):=by
 rw [List.drop_eq_getElem_cons h,List.drop_eq_getElem_cons h',fF]
/- variables within the table; kinds that are kinds -/
mutual
def okV:T->Prop
 | .mk k n _ ks=>(k=1->0<=n/\n<=25)/\wB ks
def wB:List T->Prop
 | []=>True
 | t::ts=>okV t/\wB ts
end
theorem jW:∀ {ts:List T},wB ts->∀ t∈ts,okV t
 | _::_,h,t,ht=>by
  rcases List.mem_cons.1 ht with rfl|ht
  ·exact h.1
  ·exact jW h.2 t ht
mutual
def okK:T->Prop
 | .mk k _ _ ks=>k≠0/\tU ks
def tU:List T->Prop
 | []=>True
 | t::ts=>okK t/\tU ts
end
theorem lW:∀ {ts:List T},tU ts->∀ t∈ts,okK t
 | _::_,h,t,ht=>by
  rcases List.mem_cons.1 ht with rfl|ht
  ·exact h.1
  ·exact lW h.2 t ht
theorem DZ {t:T} (h:d3 t=true):(t.kind=1->0<=t.n/\t.n<=25)/\t.kind≠0:=by
 unfold d3 at h
 refine ⟨fun hk=>?_,fun hk=>?_⟩
 ·rw [if_pos hk] at h
  simp only [Bool.and_eq_true,decide_eq_true_eq] at h
  exact ⟨h.1,h.2.1⟩
 ·rw [if_neg (by omega),if_neg (by omega),if_neg (by omega)] at h
  cases h
mutual
theorem AG:∀ (t:T) (d:Int),er t d=true->okV t/\okK t
 | .mk k n s ks,d,h=>by
  rw [er] at h
  split at h
  ·cases h
  ·simp only [Bool.and_eq_true] at h
   obtain ⟨h1,h2⟩:=h
   obtain ⟨h3,h4⟩:=yp ks (d - 1) h2
   rw [okV,okK]
   obtain ⟨h5,h6⟩:=DZ h1
   exact ⟨⟨h5,h3⟩,⟨h6,h4⟩⟩
theorem yp:∀ (ts:List T) (d:Int),ep ts d=true->wB ts/\tU ts
 | [],d,h=>by simp [wB,tU]
 | t::ts,d,h=>by
  rw [ep,Bool.and_eq_true] at h
  obtain ⟨h1,h2⟩:=AG t d h.1
  obtain ⟨h3,h4⟩:=yp ts d h.2
  rw [wB,tU]
  exact ⟨⟨h1,h3⟩,⟨h2,h4⟩⟩
end
theorem fO {t:T} (h:db t=true):okV t/\okK t:=by
 rw [db,Bool.and_eq_true] at h
 exact AG t 30 h.1
def rA (st:a6):Prop:=st.length=26/\∀ t,some t∈st->okK t
theorem Ec {st:a6} {n:Nat} {u:T} (h:rA st) (hu:okK u):rA (st.set n (some u)):=by
 refine ⟨by rw [List.length_set]; exact h.1,fun t ht=>?_⟩
 rcases List.mem_or_eq_of_mem_set ht with ht|ht
 ·exact h.2 t ht
 ·simp only [Option.some.injEq] at ht
  rw [ht]; exact hu
mutual
theorem gU:∀ (t u:T) (st:a6),rA st->okK u->rA (bE t u st).2
 | .mk k n s ks,u,st,h,hu=>by
  rw [bE]
  split
  ·split
   ·exact h
   ·exact Ec h hu
  ·split
   ·obtain ⟨k',n',s',ks'⟩:=u
    rw [okK] at hu
    exact ym ks ks' st h hu.2
   ·exact h
theorem ym:∀ (ts us:List T) (st:a6),rA st->tU us->rA (fF ts us st).2
 | [],_,st,h,_=>by rw [fF]; exact h
 | _::_,[],st,h,_=>by rw [fF]; exact h
 | t::ts,u::us,st,h,hu=>by
  rw [fF]
  rw [tU] at hu
  split
  ·exact ym ts us _ (gU t u st h hu.1) hu.2
  ·exact gU t u st h hu.1
end
def kS:List Value:=[.int .i64 0,.int .i64 0,.string ⟨#[]⟩,.slice none 0 0]
/- the table of spec.l3Match -/
def KnownC (S:ar) (c:Array Value) (st:a6):Prop:=104<=c.size/\∀ i (h:i<st.length),(st[i]=none->ba c (i * 4) 4=kS)/\(∀ t,st[i]=some t->RdT S (ba c (i * 4) 4) t)
theorem KnownC.set {S:ar} {c:Array Value} {st:a6} (h:KnownC S c st) {n:Nat} (hn:n<26) {cs:List Value} {u:T} (hu:RdT S cs u):KnownC S (bO c (n * 4) cs) (st.set n (some u)):=by
 have hlc:=hu.length
 have h1:=h.1
 have hs:104<=(bO c (n * 4) cs).size:=by rw [fr _ _ _ (by omega)]; exact h1
 refine ⟨hs,fun i hi=>?_⟩
 rw [List.length_set] at hi
 by_cases e:n=i
 ·subst e
  rw [List.getElem_set_self]
  refine ⟨fun h=>(by cases h),fun t ht=>?_⟩
  simp only [Option.some.injEq] at ht
  subst ht
  have:=gp (c:=c) (o:=n * 4) (vs:=cs) (by omega)
  rw [hlc] at this
  rw [this]
  exact hu
 ·rw [List.getElem_set_ne e,iI (by omega) (by omega)]
  exact h.2 i hi
section
attribute [local irreducible] Run CondV ak bg
abbrev kvn (kb kp:Nat):Value:=.slice (some ⟨kb,0,none⟩) 26 kp
abbrev kv0 (kb:Nat):Value:=kvn kb 26
theorem nm (kp:Nat):∀ (t u:T) (S:ar) (cs ds:List Value) (kb:Nat) (kc:Array Value) (st:a6),RdT S cs t->RdT S ds u->okV t->okK u->rA st->KnownC S kc st->
  Tri Tryz.prog z2 [.agg cs.toArray,.agg ds.toArray,kvn kb kp] [.blk kb (.cells kc ac)] S fun r I' S'=>S'=S/\r=.bool (bE t u st).1/\∃ kc',I'=[.blk kb (.cells kc' ac)]/\KnownC S kc' (bE t u st).2:=by
 refine T.ind fun k n s ks ih u S cs ds kb kc st h h' hv hu hst hkc=>?_
 intro w hI
 have hds:=h'
 obtain ⟨kv,rfl,_,_,_,hks⟩:=RdT.iff.1 h
 obtain ⟨kv',rfl,_,_,_,hks'⟩:=RdT.iff.1 h'
 obtain ⟨k',n',s',ks'⟩:=u
 simp only [T.name,T.kids,T.kind,T.n] at hks hks' ⊢
 have hlen:=hks.le
 simp only [maxLen] at hlen
 rw [okV] at hv
 obtain ⟨hv1,hv2⟩:=hv
 have huk:=hu
 rw [okK] at hu
 obtain ⟨X,hX⟩:∃ X,X=bv [Item.blk kb (.cells kc ac)]:=⟨_,rfl⟩
 rw [<- hX] at hI ⊢
 refine tg ?_
 unfold p5;dsimp only
 refine bt hI fun b1 w' hI=>?_
 refine bt hI fun b2 w' hI=>?_
 have hI:Inv w X [.blk b1 (.cells #[.int .i64 k,.int .i64 n,.string s,kv] ac),.blk b2 (.cells #[.int .i64 k',.int .i64 n',.string s',kv'] ac),.blk kb (.cells kc ac)] S w':=hI.perm (by
  refine (List.perm_append_comm (l₁:=[_,_]) (l₂:=[_])).trans ?_
  exact List.Perm.refl _)
 refine ah hI 0 rfl aU aR rfl ?_
 refine bu ?_
 refine bf (fun hk1=>?_) (fun hk1=>?_)
 ·obtain ⟨hn0,hn25⟩:=hv1 hk1
  obtain ⟨j,rfl⟩:∃ j:Nat,n=j:=⟨n.toNat,by omega⟩
  have hj:j<26:=by omega
  have hjs:j<st.length:=by rw [hst.1]; exact hj
  refine ah hI 0 rfl a9 aR rfl ?_
  refine aT aC hj ?_
  refine bb aU ?_
  rw [Nat.zero_add,Nat.add_zero]
  obtain ⟨hno,hso⟩:=hkc.2 j hjs
  cases hst2:st[j] with
  | none=>
   have hcell:=hno hst2
   refine bj hI 2 aR rfl (by have:=aS hcell 0 _ rfl; exact this) ?_
   refine bQ ?_
   refine bd (fun hb=>by simp at hb) (fun _=>?_)
   refine ah hI 0 rfl a9 aR rfl ?_
   refine a8 hI 1 al rfl rfl ?_
   refine aT aC hj ?_
   rw [Nat.zero_add]
   refine oZ hI 2 rfl al rfl (by have:=hkc.1; exact Nat.ble_eq_true_of_le (by omega)) hds.one fun w' hI=>?_
   have hm:bE (.mk k j s ks) (.mk k' n' s' ks') st=(true,st.set j (some (.mk k' n' s' ks'))):=by
    rw [bE,if_pos hk1,Int.toNat_natCast,List.getElem?_eq_getElem hjs,hst2]
   rw [hm]
   exact ⟨_,_,_,rfl,hI.pick [false,false,true],Ext.refl _ _ _,rfl,rfl,_,rfl,hkc.set hj hds⟩
  | some t0=>
   have hR:=hso t0 hst2
   have hk0:t0.kind≠0:=by
    have:=hst.2 t0 (by rw [<- hst2]; exact List.getElem_mem hjs)
    obtain ⟨a,b,c,d⟩:=t0
    rw [okK] at this
    exact this.1
   obtain ⟨kv0',hcell,_,_,_,_⟩:=RdT.iff.1 hR
   refine bj hI 2 aR rfl (by have:=aS hcell 0 _ rfl; exact this) ?_
   refine bQ ?_
   rw [decide_eq_false hk0]
   refine bd (fun _=>?_) (fun hb=>by cases hb)
   refine ⟨fun D x6 dM ev dS dQ dY dD dG w_=>(D 0=true->dG=kvn kb kp)/\(D 1=true->dD=.pointer (some ⟨b1,1,none⟩))/\(D 2=true->dY=.int .i64 j)/\(D 3=true->dQ=.pointer (some ⟨kb,j * 4,none⟩))/\(D 4=true->dS=.agg (ba kc (j * 4) 4).toArray)/\(D 5=true->ev=.agg #[.int .i64 k',.int .i64 n',.string s',kv'])/\(D 6=true->dM=.bool (eqT t0 (.mk k' n' s' ks')))/\(D 7=true->x6=.bool (eqT t0 (.mk k' n' s' ks')))/\Inv w X [.blk b1 (.cells #[.int .i64 k,.int .i64 (j:Int),.string s,kv] ac),.blk b2 (.cells #[.int .i64 k',.int .i64 n',.string s',kv'] ac),.blk kb (.cells kc ac)] S w_,⟨ae,ae,ae,ae,ae,ae,ae,ae,hI.draw⟩,⟨?_,?_,?_,?_,?_,?_,?_,?_,trivial⟩,?_⟩
   ·intro D aY  x6 dM ev dS dQ dY dD dG w_
    rintro ⟨av,aw,ao,au,az,aq,aA,aE,hI⟩
    exact ⟨fun _=>rfl,aw,ao,au,az,aq,aA,aE,hI⟩
   ·intro D aY  x6 dM ev dS dQ dY dD dG w_
    rintro ⟨av,aw,ao,au,az,aq,aA,aE,hI⟩
    refine bb a9 ?_
    exact ⟨av,fun _=>rfl,ao,au,az,aq,aA,aE,hI⟩
   ·intro D aY c6 x6 dM ev dS dQ dY dD dG w_
    rintro ⟨av,aw,ao,au,az,aq,aA,aE,hI⟩
    obtain rfl:=aw c6
    refine bj hI 0 aR rfl rfl ?_
    exact ⟨av,aw,fun _=>rfl,au,az,aq,aA,aE,hI⟩
   ·intro D aY cB d8 x6 dM ev dS dQ dY dD dG w_
    rintro ⟨av,aw,ao,au,az,aq,aA,aE,hI⟩
    obtain rfl:=av cB
    obtain rfl:=ao d8
    refine aT aC hj ?_; rw [Nat.zero_add]
    exact ⟨av,aw,ao,fun _=>rfl,az,aq,aA,aE,hI⟩
   ·intro D aY dq x6 dM ev dS dQ dY dD dG w_
    rintro ⟨av,aw,ao,au,az,aq,aA,aE,hI⟩
    obtain rfl:=au dq
    refine bY hI 2 (ba kc (j * 4) 4) al rfl hR.length (fun i v hi=>aS rfl i v hi) ?_
    exact ⟨av,aw,ao,au,fun _=>rfl,aq,aA,aE,hI⟩
   ·intro D aY  x6 dM ev dS dQ dY dD dG w_
    rintro ⟨av,aw,ao,au,az,aq,aA,aE,hI⟩
    refine a8 hI 1 al rfl rfl ?_
    exact ⟨av,aw,ao,au,az,fun _=>rfl,aA,aE,hI⟩
   ·intro D aY cZ cm x6 dM ev dS dQ dY dD dG w_
    rintro ⟨av,aw,ao,au,az,aq,aA,aE,hI⟩
    obtain rfl:=az cZ
    obtain rfl:=aq cm
    refine Run.callPure jb i8 hI (jz t0 _ S _ _ hR hds) fun w_ hI=>?_
    exact ⟨av,aw,ao,au,az,aq,fun _=>rfl,aE,hI⟩
   ·intro D aY ci gc oB mQ lu oL oo rF rB x6 dM ev dS dQ dY dD dG w_
    rintro ⟨av,aw,ao,au,az,aq,aA,aE,hI⟩
    obtain rfl:=aA ci
    exact ⟨av,aw,ao,au,az,aq,aA,fun _=>rfl,hI⟩
   intro D fB fk fi e9 fe eQ eZ e8 x6 dM ev dS dQ dY dD dG w_
   rintro ⟨av,aw,ao,au,az,aq,aA,aE,hI⟩
   obtain rfl:=aE fB
   obtain rfl:=aA fk
   obtain rfl:=aq fi
   obtain rfl:=az e9
   obtain rfl:=au fe
   obtain rfl:=ao eQ
   obtain rfl:=aw eZ
   obtain rfl:=av e8
   clear av aw ao au az aq aA aE
   have hm:bE (.mk k j s ks) (.mk k' n' s' ks') st=(eqT t0 (.mk k' n' s' ks'),st):=by
    rw [bE,if_pos hk1,Int.toNat_natCast,List.getElem?_eq_getElem hjs,hst2]
   rw [hm]
   exact ⟨_,_,_,rfl,hI.pick [false,false,true],Ext.refl _ _ _,rfl,rfl,_,rfl,hkc⟩
 refine ⟨fun q w'=>q=.bool (!gd (.mk k n s ks) (.mk k' n' s' ks'))/\Inv w X [.blk b1 (.cells #[.int .i64 k,.int .i64 n,.string s,kv] ac),.blk b2 (.cells #[.int .i64 k',.int .i64 n',.string s',kv'] ac),.blk kb (.cells kc ac)] S w',?_,?_⟩
 ·refine ah hI 0 rfl aU aR rfl ?_
  refine ah hI 1 rfl aU aR rfl ?_
  refine bQ ?_
  by_cases e1:k=k'
  ·rw [decide_eq_true e1]
   repeat (first|refine ab ?_|refine ad (by decide) ?_|refine aa ?_|refine af ?_|refine ag ?_)
   refine ah hI 0 rfl a9 aR rfl ?_
   refine ah hI 1 rfl a9 aR rfl ?_
   refine bQ ?_
   by_cases e2:n=n'
   ·rw [decide_eq_true e2]
    repeat (first|refine ab ?_|refine ad (by decide) ?_|refine aa ?_|refine af ?_|refine ag ?_)
    refine ah hI 0 rfl bi bk rfl ?_
    refine ah hI 1 rfl bi bk rfl ?_
    refine qM ?_
    by_cases e3:s=s'
    ·rw [decide_eq_true e3]
     repeat (first|refine ab ?_|refine ad (by decide) ?_|refine aa ?_|refine af ?_|refine ag ?_)
     refine ah hI 0 rfl aP aO rfl ?_
     refine a5 hks aC ?_
     refine ah hI 1 rfl aP aO rfl ?_
     refine a5 hks' aC ?_
     refine bQ ?_
     repeat (first|refine ab ?_|refine ad (by decide) ?_|refine aa ?_|refine af ?_|refine ag ?_)
     exact ⟨by rw [cQ,decide_eq_true e1,decide_eq_true e2,decide_eq_true e3,z3]; rfl,hI⟩
    ·rw [decide_eq_false e3]
     repeat (first|refine ab ?_|refine ad (by decide) ?_|refine aa ?_|refine af ?_|refine ag ?_)
     exact ⟨by rw [cQ,decide_eq_true e1,decide_eq_true e2,decide_eq_false e3]; rfl,hI⟩
   ·rw [decide_eq_false e2]
    repeat (first|refine ab ?_|refine ad (by decide) ?_|refine aa ?_|refine af ?_|refine ag ?_)
    exact ⟨by rw [cQ,decide_eq_true e1,decide_eq_false e2]; rfl,hI⟩
  ·rw [decide_eq_false e1]
   repeat (first|refine ab ?_|refine ad (by decide) ?_|refine aa ?_|refine af ?_|refine ag ?_)
   exact ⟨by rw [cQ,decide_eq_false e1]; rfl,hI⟩

 intro q _ _ _ _ _ _ _ _ _ _ _ _ _ _ _ _ _ _ _ _ _ _ _ _ _ _ _ w'
 rintro ⟨rfl,hI⟩
 cases hd:gd (.mk k n s ks) (.mk k' n' s' ks')
 ·refine bd (fun _=>?_) (fun hb=>by cases hb)
  have hm:bE (.mk k n s ks) (.mk k' n' s' ks') st=(false,st):=by rw [bE,if_neg hk1,if_neg (by rw [hd]; decide)]
  rw [hm]
  exact ⟨_,_,_,rfl,hI.pick [false,false,true],Ext.refl _ _ _,rfl,rfl,_,rfl,hkc⟩
 refine bd (fun hb=>by cases hb) (fun _=>?_)
 have hle:ks.length=ks'.length:=by
  rw [cQ] at hd
  simp only [Bool.and_eq_true,decide_eq_true_eq] at hd
  exact hd.2.2.2
 have hm:bE (.mk k n s ks) (.mk k' n' s' ks') st=fF ks ks' st:=by rw [bE,if_neg hk1,if_pos hd]; rfl
 rw [hm]
 have hu2:=hu.2
 refine ⟨fun i w'=>∃ (j:Nat) (st':a6) (kc':Array Value),j<=ks.length/\i=.int .i64 j/\fF (ks.drop j) (ks'.drop j) st'=fF ks ks' st/\rA st'/\KnownC S kc' st'/\Inv w X [.blk b1 (.cells #[.int .i64 k,.int .i64 n,.string s,kv] ac),.blk b2 (.cells #[.int .i64 k',.int .i64 n',.string s',kv'] ac),.blk kb (.cells kc' ac)] S w',fun i _=>ks.length - (intOf i).toNat,⟨0,st,kc,Nat.zero_le _,rfl,rfl,hst,hkc,hI⟩,?_⟩
 intro t5 _ _ _ _ _ _ _ _ _ _ _ _ _ _ _ _ _ _ _ _ _ w'
 rintro ⟨j,st',kc',hj,rfl,hrel,hst',hkc',hI⟩
 refine ah hI 0 rfl aP aO rfl ?_
 refine a5 hks aC ?_
 refine bz ?_
 refine bf (fun hji=>?_) (fun hji=>?_)
 ·have hj1:j<ks.length:=by omega
  have hj2:j<ks'.length:=by omega
  obtain ⟨c1,o1,cap1,a1,E1,fz1,rfl,hS1,hR1⟩:=hks.at_ hj1
  obtain ⟨c2,o2,cap2,a2,E2,fz2,rfl,hS2,hR2⟩:=hks'.at_ hj2
  rw [sN ks ks' st' j hj1 hj2] at hrel
  have hcall:=ih _ (List.getElem_mem hj1) ks'[j] S _ _ kb kc' st' hR1 hR2 (jW hv2 _ (List.getElem_mem hj1)) (lW hu2 _ (List.getElem_mem hj2)) hst' hkc'
  have hsn:=gU ks[j] ks'[j] st' hst' (lW hu2 _ (List.getElem_mem hj2))
  generalize hr:bE ks[j] ks'[j] st'=r at hrel hcall hsn
  refine ⟨fun D bP dE dB dw dC dy dz dA dx d4 nX n6 n5 w_=>(D 0=true->n5=.pointer (some ⟨b1,3,none⟩))/\(D 1=true->n6=.slice (some ⟨c1,o1,none⟩) ks.length cap1)/\(D 2=true->nX=.int .i64 j)/\(D 3=true->d4=.pointer (some ⟨c1,o1+j * 4,none⟩))/\(D 4=true->dx=.agg (ba a1 (o1+j * 4) 4).toArray)/\(D 5=true->dA=.pointer (some ⟨b2,3,none⟩))/\(D 6=true->dz=.slice (some ⟨c2,o2,none⟩) ks'.length cap2)/\(D 7=true->dy=.int .i64 j)/\(D 8=true->dC=.pointer (some ⟨c2,o2+j * 4,none⟩))/\(D 9=true->dw=.agg (ba a2 (o2+j * 4) 4).toArray)/\(D 10=true->dB=kvn kb kp)/\(D 11=true->dE=.bool r.1)/\(D 12=true->bP=.bool (!r.1))/\(D 11=false->Inv w X [.blk b1 (.cells #[.int .i64 k,.int .i64 n,.string s,.slice (some ⟨c1,o1,none⟩) ks.length cap1] ac),.blk b2 (.cells #[.int .i64 k',.int .i64 n',.string s',.slice (some ⟨c2,o2,none⟩) ks'.length cap2] ac),.blk kb (.cells kc' ac)] S w_)/\(D 11=true->∃ kc2,KnownC S kc2 r.2/\Inv w X [.blk b1 (.cells #[.int .i64 k,.int .i64 n,.string s,.slice (some ⟨c1,o1,none⟩) ks.length cap1] ac),.blk b2 (.cells #[.int .i64 k',.int .i64 n',.string s',.slice (some ⟨c2,o2,none⟩) ks'.length cap2] ac),.blk kb (.cells kc2 ac)] S w_)/\∃ kc3,Inv w X [.blk b1 (.cells #[.int .i64 k,.int .i64 n,.string s,.slice (some ⟨c1,o1,none⟩) ks.length cap1] ac),.blk b2 (.cells #[.int .i64 k',.int .i64 n',.string s',.slice (some ⟨c2,o2,none⟩) ks'.length cap2] ac),.blk kb (.cells kc3 ac)] S w_,⟨ae,ae,ae,ae,ae,ae,ae,ae,ae,ae,ae,ae,ae,⟨fun _=>hI.draw,ae,kc',hI.draw⟩⟩,⟨?_,?_,?_,?_,?_,?_,?_,?_,?_,?_,?_,?_,?_,trivial⟩,?_⟩
  ·intro D aY  bP dE dB dw dC dy dz dA dx d4 nX n6 n5 w_
   rintro ⟨av,aw,ao,au,az,aq,aA,aE,aH,aL,ai,aj,am,⟨hI0,hI1,kc3,hI⟩⟩
   refine bb aP ?_
   exact ⟨fun _=>rfl,aw,ao,au,az,aq,aA,aE,aH,aL,ai,aj,am,⟨hI0,hI1,kc3,hI⟩⟩
  ·intro D aY cB bP dE dB dw dC dy dz dA dx d4 nX n6 n5 w_
   rintro ⟨av,aw,ao,au,az,aq,aA,aE,aH,aL,ai,aj,am,⟨hI0,hI1,kc3,hI⟩⟩
   obtain rfl:=av cB
   refine bj hI 0 aO rfl rfl ?_
   exact ⟨av,fun _=>rfl,ao,au,az,aq,aA,aE,aH,aL,ai,aj,am,⟨hI0,hI1,kc3,hI⟩⟩
  ·intro D aY  bP dE dB dw dC dy dz dA dx d4 nX n6 n5 w_
   rintro ⟨av,aw,ao,au,az,aq,aA,aE,aH,aL,ai,aj,am,⟨hI0,hI1,kc3,hI⟩⟩
   exact ⟨av,aw,fun _=>rfl,au,az,aq,aA,aE,aH,aL,ai,aj,am,⟨hI0,hI1,kc3,hI⟩⟩
  ·intro D aY c6 d8 bP dE dB dw dC dy dz dA dx d4 nX n6 n5 w_
   rintro ⟨av,aw,ao,au,az,aq,aA,aE,aH,aL,ai,aj,am,⟨hI0,hI1,kc3,hI⟩⟩
   obtain rfl:=aw c6
   obtain rfl:=ao d8
   refine aT aC hj1 ?_
   exact ⟨av,aw,ao,fun _=>rfl,az,aq,aA,aE,aH,aL,ai,aj,am,⟨hI0,hI1,kc3,hI⟩⟩
  ·intro D aY dq bP dE dB dw dC dy dz dA dx d4 nX n6 n5 w_
   rintro ⟨av,aw,ao,au,az,aq,aA,aE,aH,aL,ai,aj,am,⟨hI0,hI1,kc3,hI⟩⟩
   obtain rfl:=au dq
   refine bw al hR1.length (fun j v hj=>by rw [hI.cellS hS1]; exact aS rfl j v hj) ?_
   exact ⟨av,aw,ao,au,fun _=>rfl,aq,aA,aE,aH,aL,ai,aj,am,⟨hI0,hI1,kc3,hI⟩⟩
  ·intro D aY  bP dE dB dw dC dy dz dA dx d4 nX n6 n5 w_
   rintro ⟨av,aw,ao,au,az,aq,aA,aE,aH,aL,ai,aj,am,⟨hI0,hI1,kc3,hI⟩⟩
   refine bb aP ?_
   exact ⟨av,aw,ao,au,az,fun _=>rfl,aA,aE,aH,aL,ai,aj,am,⟨hI0,hI1,kc3,hI⟩⟩
  ·intro D aY cY bP dE dB dw dC dy dz dA dx d4 nX n6 n5 w_
   rintro ⟨av,aw,ao,au,az,aq,aA,aE,aH,aL,ai,aj,am,⟨hI0,hI1,kc3,hI⟩⟩
   obtain rfl:=aq cY
   refine bj hI 1 aO rfl rfl ?_
   exact ⟨av,aw,ao,au,az,aq,fun _=>rfl,aE,aH,aL,ai,aj,am,⟨hI0,hI1,kc3,hI⟩⟩
  ·intro D aY  bP dE dB dw dC dy dz dA dx d4 nX n6 n5 w_
   rintro ⟨av,aw,ao,au,az,aq,aA,aE,aH,aL,ai,aj,am,⟨hI0,hI1,kc3,hI⟩⟩
   exact ⟨av,aw,ao,au,az,aq,aA,fun _=>rfl,aH,aL,ai,aj,am,⟨hI0,hI1,kc3,hI⟩⟩
  ·intro D aY ci gY bP dE dB dw dC dy dz dA dx d4 nX n6 n5 w_
   rintro ⟨av,aw,ao,au,az,aq,aA,aE,aH,aL,ai,aj,am,⟨hI0,hI1,kc3,hI⟩⟩
   obtain rfl:=aA ci
   obtain rfl:=aE gY
   refine aT aC hj2 ?_
   exact ⟨av,aw,ao,au,az,aq,aA,aE,fun _=>rfl,aL,ai,aj,am,⟨hI0,hI1,kc3,hI⟩⟩
  ·intro D aY dN bP dE dB dw dC dy dz dA dx d4 nX n6 n5 w_
   rintro ⟨av,aw,ao,au,az,aq,aA,aE,aH,aL,ai,aj,am,⟨hI0,hI1,kc3,hI⟩⟩
   obtain rfl:=aH dN
   refine bw al hR2.length (fun j v hj=>by rw [hI.cellS hS2]; exact aS rfl j v hj) ?_
   exact ⟨av,aw,ao,au,az,aq,aA,aE,aH,fun _=>rfl,ai,aj,am,⟨hI0,hI1,kc3,hI⟩⟩
  ·intro D aY  bP dE dB dw dC dy dz dA dx d4 nX n6 n5 w_
   rintro ⟨av,aw,ao,au,az,aq,aA,aE,aH,aL,ai,aj,am,⟨hI0,hI1,kc3,hI⟩⟩
   exact ⟨av,aw,ao,au,az,aq,aA,aE,aH,aL,fun _=>rfl,aj,am,⟨hI0,hI1,kc3,hI⟩⟩
  ·intro D aY cZ iJ g7 bP dE dB dw dC dy dz dA dx d4 nX n6 n5 w_
   rintro ⟨av,aw,ao,au,az,aq,aA,aE,aH,aL,ai,aj,am,⟨hI0,hI1,kc3,hI⟩⟩
   obtain rfl:=az cZ
   obtain rfl:=aL iJ
   obtain rfl:=ai g7
   refine Run.call (A:=[_,_]) ko kF (hI0 aY) hcall fun v' I' S w_=>?_
   rintro ⟨rfl,rfl,kc2,rfl,hk2⟩ _ hI
   have hI0:=fun (h:aD D 11 11=false)=>(Bool.noConfusion h:Inv w X [.blk b1 (.cells #[.int .i64 k,.int .i64 n,.string s,.slice (some ⟨c1,o1,none⟩) ks.length cap1] ac),.blk b2 (.cells #[.int .i64 k',.int .i64 n',.string s',.slice (some ⟨c2,o2,none⟩) ks'.length cap2] ac),.blk kb (.cells kc' ac)] S w_)
   have hI1:=fun (_:aD D 11 11=true)=>(⟨kc2,hk2,hI⟩:∃ kc2,KnownC S kc2 r.2/\Inv w X [.blk b1 (.cells #[.int .i64 k,.int .i64 n,.string s,.slice (some ⟨c1,o1,none⟩) ks.length cap1] ac),.blk b2 (.cells #[.int .i64 k',.int .i64 n',.string s',.slice (some ⟨c2,o2,none⟩) ks'.length cap2] ac),.blk kb (.cells kc2 ac)] S w_)
   obtain ⟨kc3,hI⟩:∃ kc3,Inv w X [.blk b1 (.cells #[.int .i64 k,.int .i64 n,.string s,.slice (some ⟨c1,o1,none⟩) ks.length cap1] ac),.blk b2 (.cells #[.int .i64 k',.int .i64 n',.string s',.slice (some ⟨c2,o2,none⟩) ks'.length cap2] ac),.blk kb (.cells kc3 ac)] S w_:=⟨kc2,hI⟩
   exact ⟨av,aw,ao,au,az,aq,aA,aE,aH,aL,ai,fun _=>rfl,am,⟨hI0,hI1,kc3,hI⟩⟩
  ·intro D aY e7 bP dE dB dw dC dy dz dA dx d4 nX n6 n5 w_
   rintro ⟨av,aw,ao,au,az,aq,aA,aE,aH,aL,ai,aj,am,⟨hI0,hI1,kc3,hI⟩⟩
   obtain rfl:=aj e7
   refine bJ ?_
   exact ⟨av,aw,ao,au,az,aq,aA,aE,aH,aL,ai,aj,fun _=>rfl,⟨hI0,hI1,kc3,hI⟩⟩
  intro D fN dO d7 hY gh fB fk fi e9 fe eQ eZ e8 bP dE dB dw dC dy dz dA dx d4 nX n6 n5 w_
  rintro ⟨av,aw,ao,au,az,aq,aA,aE,aH,aL,ai,aj,am,⟨hI0,hI1,kc3,hI⟩⟩
  obtain rfl:=am fN
  obtain rfl:=aj dO
  obtain rfl:=ai d7
  obtain rfl:=aL hY
  obtain rfl:=aH gh
  obtain rfl:=aE fB
  obtain rfl:=aA fk
  obtain rfl:=aq fi
  obtain rfl:=az e9
  obtain rfl:=au fe
  obtain rfl:=ao eQ
  obtain rfl:=aw eZ
  obtain rfl:=av e8
  clear av aw ao au az aq aA aE aH aL ai aj am
  obtain ⟨kc2,hk2,hI⟩:=hI1 dO
  clear hI0 hI1
  refine bd (fun hne=>?_) (fun he'=>?_)
  ·simp only [Bool.not_eq_true'] at hne
   rw [hne,if_neg (by decide)] at hrel
   rw [<- hrel]
   exact ⟨_,_,_,rfl,hI.pick [false,false,true],Ext.refl _ _ _,rfl,rfl,_,rfl,hk2⟩
  ·simp only [Bool.not_eq_false'] at he'
   rw [he',if_pos rfl] at hrel
   refine b0 (by omega) ?_
   exact ⟨⟨j+1,r.2,kc2,hj1,rfl,hrel,hsn,hk2,hI⟩,by simp [intOf]; omega⟩
 ·have:j=ks.length:=by omega
  subst this
  rw [List.drop_length,hle,List.drop_length] at hrel
  rw [<- hrel]
  exact ⟨_,_,_,rfl,hI.pick [false,false,true],Ext.refl _ _ _,rfl,rfl,_,rfl,hkc'⟩
end

end Go.Proofs.YtfcbhfjomgopbaaGreat

/- The laws' marks: laws.markText. -/
namespace Go.Proofs.YtfcbhfjomgopbaaGreat
open Go Go.RowKit
section
variable {P:Program} {w w0:World} {X:List Nat} {L:List Item} {S:ar} {K:Value->World->Prop}
attribute [local irreducible] Run CondV ak bg
theorem Dv {T:TypeId} {cx cy:Bool} {a b:Int} (hb:b≠0) (hk:K (.int .i64 (a.tmod b)) w):Run P (aG .rem T cx cy (.int .i64 a) (.int .i64 b)) w K:=
 Run.of (by simp [aG,dh,binOp,Op.intDiv,hb]) hk
theorem Fk {T:TypeId} {cx cy:Bool} {a b:Int} (hb:b≠0) (hr:-9223372036854775808<=a.tdiv b/\a.tdiv b<=9223372036854775807) (hk:K (.int .i64 (a.tdiv b)) w):Run P (aG .quo T cx cy (.int .i64 a) (.int .i64 b)) w K:=
 Run.of (by simp [aG,dh,binOp,Op.intDiv,hb,IntWalk.i64_in _ hr]) hk
end

section
attribute [local irreducible] Run CondV ak bg
end

end Go.Proofs.YtfcbhfjomgopbaaGreat
