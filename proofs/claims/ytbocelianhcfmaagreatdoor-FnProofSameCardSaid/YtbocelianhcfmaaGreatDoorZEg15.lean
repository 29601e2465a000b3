/- Arithmetic and comparisons of numbers, on both sides. -/
import Derived.Test.YtbocelianhcfmaaGreatDoorZEg10
import Derived.Test.YtbocelianhcfmaaGreatDoorZEg2
import Derived.Test.YtbocelianhcfmaaGreatDoorZEg14
import Derived.Test.YtbocelianhcfmaaGreatDoorZEg12
import Derived.Test.YtbocelianhcfmaaGreatDoorZEg13
namespace Go.Proofs.YtbocelianhcfmaaGreatDoor
section
open Go Go.RowKit
def Hs (a b:Int):Int:=if a.tmod b≠0/\(decide (a.tmod b<0) != decide (b<0))=true then a.tmod b+b else a.tmod b
def nO (n:Int):Int × Int:=if n < -999 ∨ 999<n then (0,5) else (n,0)
def opA (s:ByteArray) (a b:Int):Int × Int:=
 if s=⟨#[43]⟩ then nO (a+b)
 else if s=⟨#[45]⟩ then nO (a - b)
 else if s=⟨#[42]⟩ then nO (a * b)
 else if b=0 then (0,4)
 else if s=⟨#[109,111,100]⟩ then (Hs a b,0)
 else (a.tdiv b,0)
def mC (s:ByteArray):List (Int × Int)->Int × Int
 | [a,b]=>if aO s=1 ∨ aO s=2 then (if a.2≠0 then (0,a.2) else if b.2≠0 then (0,b.2) else opA s a.1 b.1) else (0,3)
 | _=>(0,3)
mutual
def dD:T->Int × Int
 | .mk k n s ks=>if k=1 then (0,2) else if k=2 then (n,0) else mC s (eU ks)
def eU:List T->List (Int × Int)
 | []=>[]
 | t::ts=>dD t::eU ts
end
theorem zB:∀ ts:List T,eU ts=ts.map dD
 | []=>rfl
 | t::ts=>by rw [eU,zB ts,List.map_cons]
mutual
def okN:T->Prop
 | .mk k n _ ks=>(k=2->-999<=n/\n<=999)/\Df ks
def Df:List T->Prop
 | []=>True
 | t::ts=>okN t/\Df ts
end
theorem im:∀ {ts:List T},Df ts->∀ t∈ts,okN t
 | t::ts,h,x,hx=>by
  rw [Df] at h
  rcases List.mem_cons.1 hx with rfl|hx
  ·exact h.1
  ·exact im h.2 x hx
theorem okN.kids {t:T} (h:okN t):Df t.kids:=by cases t; rw [okN] at h; exact h.2
def Sm (n:Int):Prop:=-999<=n/\n<=999
theorem u0 (n:Int):Sm (nO n).1:=by
 unfold nO Sm
 split
 ·simp
 ·simp only []; omega
theorem Jk {a b:Int} (ha:Sm a):Sm (a.tdiv b):=by
 unfold Sm at *
 have h1:(a.tdiv b).natAbs<=a.natAbs:=by
  rw [Int.natAbs_tdiv]
  exact Nat.div_le_self _ _
 omega
theorem JD {a b:Int} (_:Sm b) (h0:b≠0):(a.tmod b).natAbs<b.natAbs:=by
 rw [Int.natAbs_tmod]
 exact Nat.mod_lt _ (by omega)
theorem Nw {a b:Int} (hb:Sm b) (h0:b≠0):Sm (Hs a b):=by
 have h:=JD (a:=a) hb h0
 unfold Hs
 split
 ·rename_i h1
  obtain ⟨h1,h2⟩:=h1
  unfold Sm at *
  by_cases h3:a.tmod b<0
  ·by_cases h4:b<0
   ·simp [h3,h4] at h2
   ·omega
  ·by_cases h4:b<0
   ·omega
   ·simp [h3,h4] at h2
 ·unfold Sm at *; omega
theorem PG {s:ByteArray} {a b:Int} (ha:Sm a) (hb:Sm b):Sm (opA s a b).1:=by
 unfold opA
 split
 ·exact u0 _
 split
 ·exact u0 _
 split
 ·exact u0 _
 split
 ·simp [Sm]
 split
 ·rename_i h0 _; exact Nw hb h0
 ·exact Jk ha
theorem rE:∀ t:T,okN t->Sm (dD t).1:=by
 refine T.ind fun k n s ks ih h=>?_
 rw [okN] at h
 rw [dD]
 split
 ·simp [Sm]
 split
 ·rename_i hk; exact h.1 hk
 rw [zB]
 match ks,ih,h.2 with
 | [],_,_=>simp [mC,Sm]
 | [x],_,_=>simp [mC,Sm]
 | [x,y],ih,h2=>
  have hx:=ih x (by simp) (im h2 x (by simp))
  have hy:=ih y (by simp) (im h2 y (by simp))
  simp only [List.map_cons,List.map_nil,mC]
  split
  ·split
   ·simp [Sm]
   ·split
    ·simp [Sm]
    ·exact PG hx hy
  ·simp [Sm]
 | _::_::_::_,_,_=>simp [mC,Sm]
def qX (s:ByteArray) (a b:Int):Bool:=
 if s=⟨#[60]⟩ then decide (a<b)
 else if s=⟨#[62]⟩ then decide (b<a)
 else if s=⟨#[61,60]⟩ then decide (a<=b)
 else if s=⟨#[62,61]⟩ then decide (b<=a)
 else decide (a=b)
def gg (b:Bool):Int:=if b=true then 0 else 1
def NP (s:ByteArray):List (Int × Int)->Int
 | [a,b]=>if a.2≠0 then a.2 else if b.2≠0 then b.2 else gg (qX s a.1 b.1)
 | _=>0
def eP:List ByteArray:=[⟨#[60]⟩,⟨#[62]⟩,⟨#[61,60]⟩,⟨#[62,61]⟩,⟨#[61,58,61]⟩]
abbrev O4 (p:Int × Int):Value:=.tuple #[.int .i64 p.1,.int .i64 p.2]
theorem uM {l:List T} (h:l.length=2):∃ x y,l=[x,y]:=by
 match l,h with
 | [x,y],_=>exact ⟨x,y,rfl⟩
section
attribute [local irreducible] Run CondV ar aI
theorem gY (n:Int) (S:ae):Pure Tryz.prog D0 [.int .i64 n] S (O4 (nO n)):=by
 intro w hI
 refine qw.2 ?_
 dsimp only[qw,aE]
 refine ⟨fun t w'=>t=.bool (decide (n < -999 ∨ 999<n))/\Inv w [] [] S w',?_,?_⟩
 ·refine bD ?_
  refine rU (fun h=>⟨?_,hI⟩) (fun h=>?_)
  ·rw [decide_eq_true (.inl (of_decide_eq_true h))]
  ·refine cY ?_
   refine lz h ⟨?_,hI⟩
   have h:=of_decide_eq_false h
   rw [Value.bool.injEq,decide_eq_decide]
   omega
 intro q _ _ _ _ _ w'
 rintro ⟨rfl,hI⟩
 refine aN (fun h=>done hI ?_) (fun h=>done hI ?_)
 ·rw [nO,if_pos h]
 ·rw [nO,if_neg h]
theorem Aw (a b:Int) (h0:b≠0) (hb:Sm b) (S:ae):Pure Tryz.prog Kf [.int .i64 a,.int .i64 b] S (.int .i64 (Hs a b)):=by
 intro w hI
 have hm:=JD (a:=a) hb h0
 unfold Sm at hb
 refine yO.2 ?_
 dsimp only[yO,aY]
 refine PV h0 ?_
 refine ⟨fun t w'=>t=.int .i64 (Hs a b)/\Inv w [] [] S w',?_,?_⟩
 ·refine ⟨fun t w'=>t=.bool (decide (a.tmod b≠0/\(decide (a.tmod b<0) != decide (b<0))=true))/\Inv w [] [] S w',?_,?_⟩
  ·refine dt ?_
   refine gH (fun h=>?_) (fun h=>⟨?_,hI⟩)
   ·refine bD ?_
    refine bD ?_
    refine Hn jf ?_
    refine fm h ⟨?_,hI⟩
    simp at h
    rw [Value.bool.injEq]
    by_cases h1:a.tmod b<0 <;> by_cases h2:b<0 <;> simp [h,h1,h2]
   ·simp at h; simp [h]
  intro q _ _ _ _ _ _ _ _ w'
  rintro ⟨rfl,hI⟩
  refine aN (fun h=>?_) (fun h=>?_)
  ·refine bm (by omega) ?_
   exact ⟨by rw [Hs,if_pos h],hI⟩
  ·exact ⟨by rw [Hs,if_neg h],hI⟩
 intro q _ _ _ _ _ _ _ _ _ _ _ _ w'
 rintro ⟨rfl,hI⟩
 exact done hI rfl
theorem Bl (a b:Int) (h0:b≠0) (ha:Sm a) (S:ae):Pure Tryz.prog KL [.int .i64 a,.int .i64 b] S (.int .i64 (a.tdiv b)):=by
 intro w hI
 have:=Jk (b:=b) ha
 unfold Sm at this
 refine yU.2 ?_
 dsimp only[yU,aY]
 refine PR h0 (by omega) ?_
 exact done hI rfl
theorem OK {a b:Int} (ha:Sm a) (hb:Sm b):-998001<=a * b/\a * b<=998001:=by
 unfold Sm at *
 have h1:(a * b).natAbs=a.natAbs * b.natAbs:=Int.natAbs_mul a b
 have h2:a.natAbs * b.natAbs<=999 * 999:=Nat.mul_le_mul (by omega) (by omega)
 omega
theorem Dj (s:ByteArray) (a b:Int) (ha:Sm a) (hb:Sm b) (S:ae):Pure Tryz.prog MH [.string s,.int .i64 a,.int .i64 b] S (O4 (opA s a b)):=by
 intro w hI
 have ha':=ha
 have hb':=hb
 have hmul:=OK ha hb
 unfold Sm at ha hb
 refine BD.2 ?_
 dsimp only[BD,cM]
 refine bf ?_
 refine aN (fun h=>?_) (fun h1=>?_)
 ·refine bm (by omega) ?_
  refine Run.callPure kV kW hI (gY _ S) fun w' hI=>?_
  refine ai (v:=.int .i64 _) rfl ?_
  refine ai (v:=.int .i64 _) rfl ?_
  exact done hI (by rw [opA,if_pos h])
 refine bf ?_
 refine aN (fun h=>?_) (fun h2=>?_)
 ·refine gy (by omega) ?_
  refine Run.callPure kV kW hI (gY _ S) fun w' hI=>?_
  refine ai (v:=.int .i64 _) rfl ?_
  refine ai (v:=.int .i64 _) rfl ?_
  exact done hI (by rw [opA,if_neg h1,if_pos h])
 refine bf ?_
 refine aN (fun h=>?_) (fun h3=>?_)
 ·refine xZ (by omega) ?_
  refine Run.callPure kV kW hI (gY _ S) fun w' hI=>?_
  refine ai (v:=.int .i64 _) rfl ?_
  refine ai (v:=.int .i64 _) rfl ?_
  exact done hI (by rw [opA,if_neg h1,if_neg h2,if_pos h])
 refine bh ?_
 refine aN (fun h=>?_) (fun h4=>?_)
 ·exact done hI (by rw [opA,if_neg h1,if_neg h2,if_neg h3,if_pos h])
 refine bf ?_
 refine aN (fun h=>?_) (fun h5=>?_)
 ·refine Run.callPure HS IF hI (Aw _ _ h4 hb' S) fun w' hI=>?_
  exact done hI (by rw [opA,if_neg h1,if_neg h2,if_neg h3,if_neg h4,if_pos h])
 ·refine Run.callPure GT HF hI (Bl _ _ h4 ha' S) fun w' hI=>?_
  exact done hI (by rw [opA,if_neg h1,if_neg h2,if_neg h3,if_neg h4,if_neg h5])
theorem cr (b:Bool) (S:ae):Pure Tryz.prog Hy [.bool b] S (.int .i64 (gg b)):=by
 intro w hI
 refine vE.2 ?_
 dsimp only[vE,aE]
 refine av (fun h=>done hI ?_) (fun h=>done hI ?_) <;> rw [h] <;> rfl
theorem xF (s:ByteArray) (a b:Int) (S:ae):Pure Tryz.prog GI [.string s,.int .i64 a,.int .i64 b] S (.bool (qX s a b)):=by
 intro w hI
 refine tK.2 ?_
 dsimp only[tK,cM]
 refine bf ?_
 refine aN (fun h=>bD (done hI (by rw [qX,if_pos h]))) (fun h1=>?_)
 refine bf ?_
 refine aN (fun h=>cY (done hI (by rw [qX,if_neg h1,if_pos h]))) (fun h2=>?_)
 refine bf ?_
 refine aN (fun h=>fi (done hI (by rw [qX,if_neg h1,if_neg h2,if_pos h]))) (fun h3=>?_)
 refine bf ?_
 refine aN (fun h=>iu (done hI (by rw [qX,if_neg h1,if_neg h2,if_neg h3,if_pos h]))) (fun h4=>?_)
 exact bh (done hI (by rw [qX,if_neg h1,if_neg h2,if_neg h3,if_neg h4]))
theorem qM (s:ByteArray) (S:ae):Pure Tryz.prog zb [.string s] S (.bool (cV s eP)):=by
 intro w hI
 refine mM.2 ?_
 dsimp only[mM,aE]
 refine bf ?_
 refine rU (fun h=>?_) (fun h1=>?_)
 ·refine rpG ?_
  exact done hI (by simp only [cV,eP,List.any_cons,h,Bool.true_or])
 refine bf ?_
 refine lz h1 ?_
 refine rU (fun h=>?_) (fun h2=>?_)
 ·refine rpG ?_
  exact done hI (by simp only [cV,eP,List.any_cons,h,Bool.true_or,Bool.or_true])
 refine bf ?_
 refine lz h2 ?_
 refine rU (fun h=>?_) (fun h3=>?_)
 ·refine rpG ?_
  exact done hI (by simp only [cV,eP,List.any_cons,h,Bool.true_or,Bool.or_true])
 refine bf ?_
 refine lz h3 ?_
 refine rU (fun h=>?_) (fun h4=>?_)
 ·refine rpG ?_
  exact done hI (by simp only [cV,eP,List.any_cons,h,Bool.true_or,Bool.or_true])
 refine bf ?_
 refine lz h4 ?_
 exact done hI (by simp only [cV,eP,List.any_cons,List.any_nil,h1,h2,h3,h4,Bool.false_or,Bool.or_false])
theorem iL:∀ (t:T) (S:ae) (cs:List Value),RdT S cs t->okN t->Pure Tryz.prog EI [.agg cs.toArray] S (O4 (dD t)):=by
 refine T.ind fun k n s ks ih S cs h hn=>?_
 intro w hI
 obtain ⟨kv,rfl,_,_,_,hks⟩:=RdT.iff.1 h
 rw [okN] at hn
 simp only [T.name,T.kids,T.kind,T.n] at hks ⊢
 refine ui.2 ?_
 dsimp only[ui,aE]
 refine be hI fun b1 w' hI=>?_
 refine ad hI 0 rfl aM aw rfl ?_
 refine bh ?_
 refine aN (fun h1=>done hI (by rw [dD,if_pos h1])) (fun h1=>?_)
 refine bh ?_
 refine aN (fun h2=>?_) (fun h2=>?_)
 ·refine ad (u:=.int .i64 n) hI 0 rfl aR aw rfl ?_
  exact done hI (by rw [dD,if_neg h1,if_pos h2])
 have e0:dD (.mk k n s ks)=mC s (eU ks):=by rw [dD,if_neg h1,if_neg h2]
 rw [e0]
 refine ad hI 0 rfl aH aC rfl ?_
 refine Run.callPure dN dP hI (cX s S) fun w' hI=>?_
 refine ⟨fun t w'=>t=.bool (!(decide (ks.length=2) && (decide (aO s=1) || decide (aO s=2))))/\Inv w [] [.blk b1 (.cells #[.int .i64 k,.int .i64 n,.string s,kv] ab)] S w',?_,?_⟩
 ·refine ad hI 0 rfl ak al rfl ?_
  refine aK hks ah ?_
  refine dt ?_
  have el:decide ((ks.length:Int)=2)=decide (ks.length=2):=by rw [decide_eq_decide]; omega
  rw [el]
  cases hl:decide (ks.length=2)
  ·refine rpG ?_
   exact ⟨rfl,hI⟩
  refine rpG ?_
  refine dt ?_
  cases h3:decide (aO s=1)
  ·refine rpG ?_
   refine dt ?_
   refine rpG ?_
   exact ⟨rfl,hI⟩
  ·refine rpG ?_
   exact ⟨rfl,hI⟩
 intro q _ _ _ _ _ _ _ _ _ _ _ w'
 rintro ⟨rfl,hI⟩
 refine av (fun hc=>done hI ?_) (fun hc=>?_)
 ·match ks,hc with
  | [],_|[_],_|_::_::_::_,_=>rfl
  | [x,y],hc=>
   simp at hc
   rw [eU,eU,eU,mC,if_neg (by omega)]
 simp only [Bool.not_eq_false',Bool.and_eq_true,Bool.or_eq_true,decide_eq_true_eq] at hc
 obtain ⟨hl,hv⟩:=hc
 obtain ⟨x,y,rfl⟩:=uM hl
 have e1:mC s (eU [x,y])=if (dD x).2≠0 then (0,(dD x).2) else if (dD y).2≠0 then (0,(dD y).2) else opA s (dD x).1 (dD y).1:=by
  rw [eU,eU,eU,mC,if_pos hv]
 rw [e1]
 have nx:=im hn.2 x (by simp)
 have ny:=im hn.2 y (by simp)
 refine ad hI 0 rfl ak al rfl ?_
 refine bP (i:=0) hI hks ah ac (by simp) (fun _ _=>RdT.length) fun cs' hcs'=>?_
 refine Run.callPure gf gp hI (ih x (by simp) S cs' hcs' nx) fun w' hI=>?_
 refine ai (v:=.int .i64 _) rfl ?_
 refine ai (v:=.int .i64 _) rfl ?_
 refine dt ?_
 refine av (fun h5=>done hI ?_) (fun h5=>?_)
 ·simp at h5
  rw [if_pos h5]
 simp at h5
 rw [if_neg (by simp [h5])]
 refine ad hI 0 rfl ak al rfl ?_
 refine bP (i:=1) hI hks ah ac (by simp) (fun _ _=>RdT.length) fun cs' hcs'=>?_
 refine Run.callPure gf gp hI (ih y (by simp) S cs' hcs' ny) fun w' hI=>?_
 refine ai (v:=.int .i64 _) rfl ?_
 refine ai (v:=.int .i64 _) rfl ?_
 refine dt ?_
 refine av (fun h6=>done hI ?_) (fun h6=>?_)
 ·simp at h6
  rw [if_pos h6]
 simp at h6
 rw [if_neg (by simp [h6])]
 refine ad hI 0 rfl aH aC rfl ?_
 refine Run.callPure Ke KE hI (Dj s _ _ (rE _ nx) (rE _ ny) S) fun w' hI=>?_
 refine ai (v:=.int .i64 _) rfl ?_
 refine ai (v:=.int .i64 _) rfl ?_
 exact done hI rfl
theorem tT {s:ByteArray} {k n:Int} {ks:List T} {S:ae} {cs:List Value} (h:RdT S cs (.mk k n s ks)) (hl:ks.length=2) (hn:Df ks):Pure Tryz.prog Ao [.agg cs.toArray] S (.int .i64 (NP s (eU ks))):=by
 intro w hI
 obtain ⟨kv,rfl,_,_,_,hks⟩:=RdT.iff.1 h
 simp only [T.name,T.kids,T.kind,T.n] at hks ⊢
 obtain ⟨x,y,rfl⟩:=uM hl
 have nx:=im hn x (by simp)
 have ny:=im hn y (by simp)
 rw [eU,eU,eU,NP]
 refine oa.2 ?_
 dsimp only[oa,aE]
 refine be hI fun b1 w' hI=>?_
 refine ad hI 0 rfl ak al rfl ?_
 refine bP (i:=0) hI hks ah ac (by simp) (fun _ _=>RdT.length) fun cs' hcs'=>?_
 refine Run.callPure gf gp hI (iL x S cs' hcs' nx) fun w' hI=>?_
 refine ai (v:=.int .i64 _) rfl ?_
 refine ai (v:=.int .i64 _) rfl ?_
 refine dt ?_
 refine av (fun h5=>done hI ?_) (fun h5=>?_)
 ·simp at h5
  rw [if_pos h5]
 simp at h5
 rw [if_neg (by simp [h5])]
 refine ad hI 0 rfl ak al rfl ?_
 refine bP (i:=1) hI hks ah ac (by simp) (fun _ _=>RdT.length) fun cs' hcs'=>?_
 refine Run.callPure gf gp hI (iL y S cs' hcs' ny) fun w' hI=>?_
 refine ai (v:=.int .i64 _) rfl ?_
 refine ai (v:=.int .i64 _) rfl ?_
 refine dt ?_
 refine av (fun h6=>done hI ?_) (fun h6=>?_)
 ·simp at h6
  rw [if_pos h6]
 simp at h6
 rw [if_neg (by simp [h6])]
 refine ad hI 0 rfl aH aC rfl ?_
 refine Run.callPure De C5 hI (xF s _ _ S) fun w' hI=>?_
 refine Run.callPure dr du hI (cr _ S) fun w' hI=>?_
 exact done hI rfl
end
end
section
open Go Go.RowKit
def zT:T:=.mk 0 0 ⟨#[]⟩ []
def kd (g:T) (i:Nat):T:=g.kids.getD i zT
inductive BJ where
 | done (c:Int)
 | uni (a b:T)
 | not (a b:T)
def zx (n t u:T):BJ:=if n.kind=1 ∨ t.kind=1 then .done 2 else if n.kind≠2 ∨ t.kind≠3 ∨ t.kids.length=0 then .done 3
 else if n.n<1 ∨ (t.kids.length:Int)<n.n then .done 1 else .uni u (kd t (n.n.toNat - 1))
def we (s:ByteArray) (t:T):Bool:=if s=⟨#[118,97,114]⟩ then decide (t.kind=1) else if s=⟨#[110,111,110,118,97,114]⟩ then !decide (t.kind=1)
 else if s=⟨#[105,110,116]⟩ then decide (t.kind=2) else decide (t.kind=3) && decide (t.kids.length=0)
abbrev pW:ByteArray:=⟨#[116,114,117,101]⟩
abbrev sR:ByteArray:=⟨#[102,97,105,108]⟩
abbrev nEq:ByteArray:=⟨#[61]⟩
abbrev nNe:ByteArray:=⟨#[92,61]⟩
abbrev BV:ByteArray:=⟨#[61,61]⟩
abbrev nIs:ByteArray:=⟨#[105,115]⟩
abbrev Ma:ByteArray:=⟨#[97,114,103]⟩
def EV (n:Int):T:=.mk 2 n emptyB []
def kR (g:T):BJ:=
 if g.name=pW then .done 0
 else if g.name=sR then .done 1
 else if g.name=nEq then .uni (kd g 0) (kd g 1)
 else if g.name=nNe then .not (kd g 0) (kd g 1)
 else if g.name=BV then .done (gg (eqT (kd g 0) (kd g 1)))
 else if g.name=nIs then (if (dD (kd g 1)).2≠0 then .done (dD (kd g 1)).2 else .uni (kd g 0) (EV (dD (kd g 1)).1))
 else if g.name=Ma then zx (kd g 0) (kd g 1) (kd g 2)
 else if cV g.name eP=true then .done (NP g.name (eU g.kids))
 else .done (gg (we g.name (kd g 0)))
def BltJ (st:aG) (j:BJ) (code:Int) (st':aG):Prop:=match j with
 | .done c=>code=c/\st'=st
 | .uni a b=>∃ r,Uni st (.one a b) r st'/\code=gg r
 | .not a b=>st'=st/\∃ r st1,Uni st (.one a b) r st1/\code=gg (!r)
def Blt (st:aG) (g:T) (code:Int) (st':aG):Prop:=BltJ st (kR g) code st'
theorem j1 {s:ByteArray} {n:Int} (hs:cV s pr=true) (h:dc s n=true):n=2:=by
 rw [dc,if_pos hs] at h
 exact of_decide_eq_true h
theorem Jy {n:Int} (h:dc Ma n=true):n=3:=by
 rw [dc,if_neg (by decide +kernel),if_neg (by decide +kernel),if_neg (by decide +kernel),if_pos rfl] at h
 exact of_decide_eq_true h
theorem zV {s:ByteArray} {l:List ByteArray}:cV s l=false↔∀ x∈l,s≠x:=by
 rw [cV,List.any_eq_false]
 simp
theorem Of {s:ByteArray} (h:cV s eP=true):cV s pr=true:=by
 rw [cV,List.any_eq_true] at h ⊢
 obtain ⟨x,hx,hd⟩:=h
 refine ⟨x,?_,hd⟩
 simp only [eP,List.mem_cons,List.not_mem_nil,or_false] at hx
 rcases hx with rfl|rfl|rfl|rfl|rfl <;> simp [pr]
theorem Mg {s:ByteArray} {n:Int} (h:dc s n=true) (h1:s≠pW) (h2:s≠sR) (h3:s≠nEq) (h4:s≠nNe) (h5:s≠BV) (h6:s≠nIs) (hc:cV s eP=false) :
  (cV s tm=true/\n=1) ∨ (s=Ma/\n=3):=by
 have hk:cV s pr=false:=by
  rw [zV] at hc ⊢
  intro x hx
  simp only [pr,List.mem_cons,List.not_mem_nil,or_false] at hx
  rcases hx with rfl|rfl|rfl|rfl|rfl|rfl|rfl|rfl|rfl <;> first|assumption|exact hc _ (by simp [eP])
 have hk2:cV s mp=false:=by
  rw [zV]
  intro x hx
  simp only [mp,List.mem_cons,List.not_mem_nil,or_false] at hx
  rcases hx with rfl|rfl <;> assumption
 rw [dc,hk,hk2,if_neg (by decide),if_neg (by decide)] at h
 cases ht:cV s tm
 ·rw [ht,if_neg (by decide)] at h
  split at h
  ·rename_i e; exact .inr ⟨e,of_decide_eq_true h⟩
  ·cases h
 ·rw [ht,if_pos rfl] at h
  exact .inl ⟨rfl,of_decide_eq_true h⟩
theorem Po {l:List T} (h:l.length=1):∃ x,l=[x]:=by
 match l,h with
 | [x],_=>exact ⟨x,rfl⟩
theorem Mf {l:List T} (h:l.length=3):∃ x y z,l=[x,y,z]:=by
 match l,h with
 | [x,y,z],_=>exact ⟨x,y,z,rfl⟩
def Qi (N:Nat):BJ->Prop
 | .done _=>True
 | .uni a b=>okJ N (.one a b)
 | .not a b=>okJ N (.one a b)
theorem BltJ.ex {N:Nat} {st:aG} {j:BJ} (hg:Good N st) (hj:Qi N j):∃ c st',BltJ st j c st':=by
 match j,hj with
 | .done c,_=>exact ⟨c,st,rfl,rfl⟩
 | .uni a b,hj=>
  have hj:okJ N (.one a b):=hj
  obtain ⟨r,st',hu⟩:=D3 (unb st) st hg (Nat.le_refl _) _ hj
  exact ⟨_,st',r,hu,rfl⟩
 | .not a b,hj=>
  have hj:okJ N (.one a b):=hj
  obtain ⟨r,st',hu⟩:=D3 (unb st) st hg (Nat.le_refl _) _ hj
  exact ⟨_,st,rfl,r,st',hu,rfl⟩
theorem M6 (N:Nat) (n:Int):okU N (EV n):=by
 rw [EV,okU,df]
 exact ⟨by decide,(fun h=>by cases h),trivial,by decide +kernel⟩
theorem Pr {g:T} {i:Nat} (h:i<g.kids.length):kd g i∈g.kids:=by
 rw [kd,List.getD_eq_getElem?_getD,List.getElem?_eq_getElem h]
 exact List.getElem_mem h
theorem vV {N:Nat} {g:T} {i:Nat} (ho:okU N g/\wT g<=1048576) (h:i<g.kids.length):okU N (kd g i)/\wT (kd g i)<=1048576:=j8 ho _ (Pr h)
theorem Dz {N:Nat} {g:T} (hb:dw g=true) (ho:okU N g/\wT g<=1048576):Qi N (kR g):=by
 rw [dw,Bool.and_eq_true] at hb
 have hb:=hb.2
 have hlen:∀ m:Nat,((g.kids.length:Nat):Int)=m->g.kids.length=m:=fun m h=>by omega
 unfold kR
 split
 ·trivial
 split
 ·trivial
 split
 ·rename_i h; rw [h] at hb
  have:=j1 (by decide +kernel) hb
  exact ⟨vV ho (by omega),vV ho (by omega)⟩
 split
 ·rename_i h; rw [h] at hb
  have:=j1 (by decide +kernel) hb
  exact ⟨vV ho (by omega),vV ho (by omega)⟩
 split
 ·trivial
 split
 ·rename_i h; rw [h] at hb
  have:=j1 (by decide +kernel) hb
  split
  ·trivial
  ·exact ⟨vV ho (by omega),M6 N _,by have e:emptyB.size=0:=rfl; simp only [EV,wT,wL,List.length_nil]; omega⟩
 split
 ·rename_i h; rw [h] at hb
  have:=Jy hb
  unfold zx
  split
  ·trivial
  split
  ·trivial
  split
  ·trivial
  ·rename_i h1 h2 h3
   have k1:=vV (i:=1) ho (by omega)
   exact ⟨vV ho (by omega),vV k1 (by omega)⟩
 split
 ·trivial
 ·trivial
theorem Blt.ex {N:Nat} {st:aG} {g:T} (hg:Good N st) (hb:dw g=true) (ho:okU N g/\wT g<=1048576):∃ c st',Blt st g c st':=BltJ.ex hg (Dz hb ho)
theorem Blt.good {N:Nat} {st st':aG} {g:T} {c:Int} (hg:Good N st) (hb:dw g=true) (ho:okU N g/\wT g<=1048576) (h:Blt st g c st'):Good N st':=by
 have hj:=Dz hb ho
 unfold Blt at h
 match hb:kR g,h,hj with
 | .done c,h,_=>exact h.2 ▸ hg
 | .uni a b,⟨r,hu,_⟩,hj=>exact (hu.good hg hj).1
 | .not a b,h,_=>exact h.1 ▸ hg
theorem RdSl.ptr {α:Type} {S:ae} {k:Nat} {R:List Value->α->Prop} {v:Value} {xs:List α} (h:RdSl S k R v xs) (hi:0<xs.length) :
  ∃ b o cap c E fz,v=.slice (some ⟨b,o,none⟩) xs.length cap/\S b=some (.cells c E fz)/\∀ i (h:i<xs.length),R (aL c (o+i * k) k) xs[i]:=by
 obtain ⟨a,cap,rfl,hl,hc,h⟩:=h
 rcases h with h|⟨b,o,c,E,fz,rfl,hS,h⟩
 ·subst h; simp at hi
 ·exact ⟨b,o,cap,c,E,fz,rfl,hS,h⟩
section
attribute [local irreducible] Run CondV ar aI
theorem zp {k n:Int} {s:ByteArray} {x:T} {S:ae} {cs:List Value} (h:RdT S cs (.mk k n s [x])):Pure Tryz.prog Hq [.agg cs.toArray] S (.int .i64 (gg (we s x))):=by
 intro w hI
 obtain ⟨kv,rfl,_,_,_,hks⟩:=RdT.iff.1 h
 simp only [T.name,T.kids,T.kind,T.n] at hks ⊢
 refine wv.2 ?_
 dsimp only[wv,aE]
 refine be hI fun b1 w' hI=>?_
 refine ad hI 0 rfl ak al rfl ?_
 refine bP (i:=0) hI hks ah ac (by simp) (fun _ _=>RdT.length) fun ds hds=>?_
 have hds:RdT S ds x:=hds
 refine aA hI aU fun b3 w' hI=>?_
 refine aj hI 1 rfl ac (by simpa using hds.length) rfl (by simpa using hds.one) fun w' hI=>?_
 obtain ⟨kv2,rfl,_,_,_,hk2⟩:=RdT.iff.1 hds
 have hI:Inv w [] [.blk b1 (.cells #[.int .i64 k,.int .i64 n,.string s,kv] ab),.blk b3 (.cells #[.int .i64 x.kind,.int .i64 x.n,.string x.name,kv2] ab)] S w':=hI
 refine ad hI 0 rfl aH aC rfl ?_
 refine bf ?_
 refine aN (fun h=>?_) (fun h1=>?_)
 ·refine ad hI 1 rfl aM aw rfl ?_
  refine bh ?_
  exact Run.callPure dr du hI (cr _ S) fun w' hI=>done hI (by rw [we,if_pos h])
 refine bf ?_
 refine aN (fun h=>?_) (fun h2=>?_)
 ·refine ad hI 1 rfl aM aw rfl ?_
  refine dt ?_
  exact Run.callPure dr du hI (cr _ S) fun w' hI=>done hI (by rw [we,if_neg h1,if_pos h])
 refine bf ?_
 refine aN (fun h=>?_) (fun h3=>?_)
 ·refine ad hI 1 rfl aM aw rfl ?_
  refine bh ?_
  exact Run.callPure dr du hI (cr _ S) fun w' hI=>done hI (by rw [we,if_neg h1,if_neg h2,if_pos h])
 refine ad hI 1 rfl aM aw rfl ?_
 refine bh ?_
 have et:we s x=(decide (x.kind=3) && decide (x.kids.length=0)):=by rw [we,if_neg h1,if_neg h2,if_neg h3]
 rw [et]
 cases hk:decide (x.kind=3)
 ·refine rpG ?_
  exact Run.callPure dr du hI (cr _ S) fun w' hI=>done hI rfl
 refine rpG ?_
 refine ad hI 1 rfl ak al rfl ?_
 refine aK hk2 ah ?_
 refine bh ?_
 refine rpG ?_
 refine Run.callPure dr du hI (cr _ S) fun w' hI=>done hI ?_
 have el:decide ((x.kids.length:Int)=0)=decide (x.kids.length=0):=by rw [decide_eq_decide]; omega
 rw [el,Bool.true_and]
def NU (S:ae) (j:BJ):Value->List Item->ae->Prop:=fun q I' S'=>I'=[]/\S'=S/\∃ (ds:List Value) (c:Int),q=.tuple #[.agg ds.toArray,.int .i64 c]/\ds.length=4/\(∀ u∈ds,u.oneCell'=true)/\match j with
 | .done c'=>c=c'/\c≠0
 | .uni _ b=>c=0/\RdT S ds b
 | .not _ _=>False
theorem Au {k n:Int} {s:ByteArray} {x y z:T} {S:ae} {cs:List Value} (h:RdT S cs (.mk k n s [x,y,z])):Tri Tryz.prog J9 [.agg cs.toArray] [] S (NU S (zx x y z)):=by
 intro w hI
 obtain ⟨kv,rfl,_,_,_,hks⟩:=RdT.iff.1 h
 simp only [T.name,T.kids,T.kind,T.n] at hks ⊢
 refine y4.2 ?_
 dsimp only[y4,aE]
 refine be hI fun b1 w' hI=>?_
 refine aA hI aU fun b2 w' hI=>?_
 refine ad hI 0 rfl ak al rfl ?_
 refine bP (i:=0) hI hks ah ac (by simp) (fun _ _=>RdT.length) fun xs hxs=>?_
 have hxs:RdT S xs x:=hxs
 refine aA hI aU fun b4 w' hI=>?_
 refine aj hI 2 rfl ac (by simpa using hxs.length) rfl (by simpa using hxs.one) fun w' hI=>?_
 refine ad hI 0 rfl ak al rfl ?_
 refine bP (i:=1) hI hks ah ac (by simp) (fun _ _=>RdT.length) fun ys hys=>?_
 have hys:RdT S ys y:=hys
 refine aA hI aU fun b5 w' hI=>?_
 refine aj hI 3 rfl ac (by simpa using hys.length) rfl (by simpa using hys.one) fun w' hI=>?_
 obtain ⟨kx,rfl,_,_,_,hkx⟩:=RdT.iff.1 hxs
 obtain ⟨ky,rfl,_,_,_,hky⟩:=RdT.iff.1 hys
 obtain ⟨L,hL⟩:∃ L:List Item,L=[.blk b1 (.cells #[.int .i64 k,.int .i64 n,.string s,kv] ab),.blk b2 (.cells #[.int .i64 0,.int .i64 0,.string ⟨#[]⟩,.slice none 0 0] ab),.blk b4 (.cells #[.int .i64 x.kind,.int .i64 x.n,.string x.name,kx] ab),.blk b5 (.cells #[.int .i64 y.kind,.int .i64 y.n,.string y.name,ky] ab)]:=⟨_,rfl⟩
 have hI:Inv w [] L S w':=by rw [hL]; exact hI
 have i1:L[1]?=some (.blk b2 (.cells #[.int .i64 0,.int .i64 0,.string ⟨#[]⟩,.slice none 0 0] ab)):=by rw [hL]; rfl
 have i2:L[2]?=some (.blk b4 (.cells #[.int .i64 x.kind,.int .i64 x.n,.string x.name,kx] ab)):=by rw [hL]; rfl
 have i3:L[3]?=some (.blk b5 (.cells #[.int .i64 y.kind,.int .i64 y.n,.string y.name,ky] ab)):=by rw [hL]; rfl
 have hz:∀ u∈([.int .i64 0,.int .i64 0,.string ⟨#[]⟩,.slice none 0 0]:List Value),u.oneCell'=true:=by simp [Value.oneCell']
 have el:decide ((y.kids.length:Int)=0)=decide (y.kids.length=0):=by rw [decide_eq_decide]; omega
 refine ⟨fun q w'=>q=.bool (decide (x.kind=1 ∨ y.kind=1))/\Inv w [] L S w',?_,?_⟩
 ·refine ad hI 2 i2 aM aw rfl ?_
  refine bh ?_
  cases h1:decide (x.kind=1)
  ·refine rpG ?_
   refine ad hI 3 i3 aM aw rfl ?_
   refine bh ?_
   refine rpG ?_
   refine ⟨?_,hI⟩
   rw [Value.bool.injEq,decide_eq_decide]
   have:=of_decide_eq_false h1
   exact ⟨.inr,fun h=>h.resolve_left this⟩
  ·refine rpG ?_
   exact ⟨by rw [decide_eq_true (.inl (of_decide_eq_true h1))],hI⟩
 intro q _ _ _ _ _ _ _ w'
 rintro ⟨rfl,hI⟩
 refine aN (fun h1=>?_) (fun h1=>?_)
 ·refine iX ?_
  refine aj hI 1 i1 ac rfl rfl hz fun w' hI=>?_
  rw [hL] at hI
  refine aS hI 1 ac rfl rfl ?_
  refine ⟨_,_,_,rfl,hI.nil,Ext.refl _ _ _,rfl,rfl,_,2,rfl,rfl,hz,?_⟩
  rw [zx,if_pos h1]
  exact ⟨rfl,by decide⟩
 refine ⟨fun q w'=>q=.bool (decide (x.kind≠2 ∨ y.kind≠3 ∨ y.kids.length=0))/\Inv w [] L S w',?_,?_⟩
 ·refine ad hI 2 i2 aM aw rfl ?_
  refine dt ?_
  cases h2:decide (x.kind=2)
  ·refine rpG ?_
   exact ⟨by rw [decide_eq_true (.inl (of_decide_eq_false h2))],hI⟩
  have h2:=of_decide_eq_true h2
  refine rpG ?_
  refine ad hI 3 i3 aM aw rfl ?_
  refine dt ?_
  cases h3:decide (y.kind=3)
  ·refine rpG ?_
   exact ⟨by rw [decide_eq_true (.inr (.inl (of_decide_eq_false h3)))],hI⟩
  have h3:=of_decide_eq_true h3
  refine rpG ?_
  refine ad hI 3 i3 ak al rfl ?_
  refine aK hky ah ?_
  refine bh ?_
  rw [el]
  refine rpG ?_
  refine ⟨?_,hI⟩
  rw [Value.bool.injEq,decide_eq_decide]
  simp [h2,h3]
 intro q _ _ _ _ _ _ _ _ _ _ _ _ _ w'
 rintro ⟨rfl,hI⟩
 refine aN (fun h2=>?_) (fun h2=>?_)
 ·refine iX ?_
  refine aj hI 1 i1 ac rfl rfl hz fun w' hI=>?_
  rw [hL] at hI
  refine aS hI 1 ac rfl rfl ?_
  refine ⟨_,_,_,rfl,hI.nil,Ext.refl _ _ _,rfl,rfl,_,3,rfl,rfl,hz,?_⟩
  rw [zx,if_neg h1,if_pos h2]
  exact ⟨rfl,by decide⟩
 refine ⟨fun q w'=>q=.bool (decide (x.n<1 ∨ (y.kids.length:Int)<x.n))/\Inv w [] L S w',?_,?_⟩
 ·refine ad hI 2 i2 aR aw rfl ?_
  refine bD ?_
  cases h3:decide (x.n<1)
  ·refine rpG ?_
   refine ad hI 2 i2 aR aw rfl ?_
   refine ad hI 3 i3 ak al rfl ?_
   refine aK hky ah ?_
   refine cY ?_
   refine rpG ?_
   refine ⟨?_,hI⟩
   have:=of_decide_eq_false h3
   rw [Value.bool.injEq,decide_eq_decide]
   exact ⟨.inr,fun h=>h.resolve_left this⟩
  ·refine rpG ?_
   exact ⟨by rw [decide_eq_true (.inl (of_decide_eq_true h3))],hI⟩
 intro q _ _ _ _ _ _ _ _ _ _ w'
 rintro ⟨rfl,hI⟩
 refine aN (fun h3=>?_) (fun h3=>?_)
 ·refine iX ?_
  refine aj hI 1 i1 ac rfl rfl hz fun w' hI=>?_
  rw [hL] at hI
  refine aS hI 1 ac rfl rfl ?_
  refine ⟨_,_,_,rfl,hI.nil,Ext.refl _ _ _,rfl,rfl,_,1,rfl,rfl,hz,?_⟩
  rw [zx,if_neg h1,if_neg h2,if_pos h3]
  exact ⟨rfl,by decide⟩
 obtain ⟨m,hm⟩:∃ m:Nat,x.n=(m:Int)+1:=⟨(x.n - 1).toNat,by omega⟩
 have hml:m<y.kids.length:=by omega
 refine ad hI 3 i3 ak al rfl ?_
 refine ad (u:=.int .i64 x.n) hI 2 i2 aR aw rfl ?_
 rw [hm]
 refine gy (by have:=hky.le; simp only [maxLen] at this; omega) ?_
 rw [Int.add_sub_cancel]
 refine bP (i:=m) hI hky ah ac hml (fun _ _=>RdT.length) fun es hes=>?_
 refine aj hI 1 i1 ac (by simpa using hes.length) rfl (by simpa using hes.one) fun w' hI=>?_
 rw [hL] at hI
 refine aS hI 1 ac rfl (by simpa using hes.length) ?_
 refine ⟨_,_,_,rfl,hI.nil,Ext.refl _ _ _,rfl,rfl,es,0,rfl,hes.length,hes.one,?_⟩
 rw [zx,if_neg h1,if_neg h2,if_neg h3]
 refine ⟨rfl,?_⟩
 have e:kd y (x.n.toNat - 1)=y.kids[m]:=by
  have e1:x.n.toNat - 1=m:=by omega
  rw [e1,kd,List.getD_eq_getElem?_getD,List.getElem?_eq_getElem hml]
  rfl
 rw [e]
 exact hes
end
end
end Go.Proofs.YtbocelianhcfmaaGreatDoor
