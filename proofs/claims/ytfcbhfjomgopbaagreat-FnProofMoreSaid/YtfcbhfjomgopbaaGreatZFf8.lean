/- Arithmetic and comparisons of numbers, on both sides. -/
import Derived.Test.YtfcbhfjomgopbaaGreatZFf5
import Derived.Test.YtfcbhfjomgopbaaGreatZFf1
import Derived.Test.YtfcbhfjomgopbaaGreatZFf7
import Derived.Test.YtfcbhfjomgopbaaGreatZFf6
import Derived.Test.YtfcbhfjomgopbaaGreatZFf2
namespace Go.Proofs.YtfcbhfjomgopbaaGreat
section
open Go Go.RowKit
def FH (a b:Int):Int:=if a.tmod b≠0/\(decide (a.tmod b<0) != decide (b<0))=true then a.tmod b+b else a.tmod b
def iS (n:Int):Int × Int:=if n < -999 ∨ 999<n then (0,5) else (n,0)
def opA (s:ByteArray) (a b:Int):Int × Int:=
 if s=⟨#[43]⟩ then iS (a+b)
 else if s=⟨#[45]⟩ then iS (a - b)
 else if s=⟨#[42]⟩ then iS (a * b)
 else if b=0 then (0,4)
 else if s=⟨#[109,111,100]⟩ then (FH a b,0)
 else (a.tdiv b,0)
def iT (s:ByteArray):List (Int × Int)->Int × Int
 | [a,b]=>if cn s=1 ∨ cn s=2 then (if a.2≠0 then (0,a.2) else if b.2≠0 then (0,b.2) else opA s a.1 b.1) else (0,3)
 | _=>(0,3)
mutual
def cj:T->Int × Int
 | .mk k n s ks=>if k=1 then (0,2) else if k=2 then (n,0) else iT s (dw ks)
def dw:List T->List (Int × Int)
 | []=>[]
 | t::ts=>cj t::dw ts
end
theorem Ax:∀ ts:List T,dw ts=ts.map cj
 | []=>rfl
 | t::ts=>by rw [dw,Ax ts,List.map_cons]
mutual
def okN:T->Prop
 | .mk k n _ ks=>(k=2->-999<=n/\n<=999)/\xZ ks
def xZ:List T->Prop
 | []=>True
 | t::ts=>okN t/\xZ ts
end
theorem fg:∀ {ts:List T},xZ ts->∀ t∈ts,okN t
 | t::ts,h,x,hx=>by
  rw [xZ] at h
  rcases List.mem_cons.1 hx with rfl|hx
  ·exact h.1
  ·exact fg h.2 x hx
theorem okN.kids {t:T} (h:okN t):xZ t.kids:=by cases t; rw [okN] at h; exact h.2
def Sm (n:Int):Prop:=-999<=n/\n<=999
theorem xA (n:Int):Sm (iS n).1:=by
 unfold iS Sm
 split
 ·simp
 ·simp only []; omega
theorem Fp {a b:Int} (ha:Sm a):Sm (a.tdiv b):=by
 unfold Sm at *
 have h1:(a.tdiv b).natAbs<=a.natAbs:=by
  rw [Int.natAbs_tdiv]
  exact Nat.div_le_self _ _
 omega
theorem FI {a b:Int} (_:Sm b) (h0:b≠0):(a.tmod b).natAbs<b.natAbs:=by
 rw [Int.natAbs_tmod]
 exact Nat.mod_lt _ (by omega)
theorem Mc {a b:Int} (hb:Sm b) (h0:b≠0):Sm (FH a b):=by
 have h:=FI (a:=a) hb h0
 unfold FH
 split
 ·rename_i h1
  obtain ⟨h1,h2⟩:=h1
  unfold Sm at *
  by_cases h3:a.tmod b<0
  ·by_cases h4:b<0
   ·simp [h3,h4] at h2
   ·omega
  ·by_cases h4:b<0
   ·omega
   ·simp [h3,h4] at h2
 ·unfold Sm at *; omega
theorem Rp {s:ByteArray} {a b:Int} (ha:Sm a) (hb:Sm b):Sm (opA s a b).1:=by
 unfold opA
 split
 ·exact xA _
 split
 ·exact xA _
 split
 ·exact xA _
 split
 ·simp [Sm]
 split
 ·rename_i h0 _; exact Mc hb h0
 ·exact Fp ha
theorem lj:∀ t:T,okN t->Sm (cj t).1:=by
 refine T.ind fun k n s ks ih h=>?_
 rw [okN] at h
 rw [cj]
 split
 ·simp [Sm]
 split
 ·rename_i hk; exact h.1 hk
 rw [Ax]
 match ks,ih,h.2 with
 | [],_,_=>simp [iT,Sm]
 | [x],_,_=>simp [iT,Sm]
 | [x,y],ih,h2=>
  have hx:=ih x (by simp) (fg h2 x (by simp))
  have hy:=ih y (by simp) (fg h2 y (by simp))
  simp only [List.map_cons,List.map_nil,iT]
  split
  ·split
   ·simp [Sm]
   ·split
    ·simp [Sm]
    ·exact Rp hx hy
  ·simp [Sm]
 | _::_::_::_,_,_=>simp [iT,Sm]
theorem CH {x b:Int} (h:x.natAbs<b.natAbs):x.tmod b=x:=by
 have h1:=Int.tmod_add_mul_tdiv x b
 have h2:(x.tdiv b).natAbs=0:=by rw [Int.natAbs_tdiv]; exact Nat.div_eq_of_lt h
 have h3:x.tdiv b=0:=by omega
 rw [h3] at h1
 simpa using h1
theorem HI {m b:Int} (h0:0<=m) (h:m<b):(m+b).tmod b=m:=by
 rw [Int.tmod_eq_emod_of_nonneg (by omega),Int.add_emod_right,Int.emod_eq_of_lt h0 h]
theorem MA {m b:Int} (h0:m<=0) (h:b<m):(m+b).tmod b=m:=by
 have h1:=HI (m:=-m) (b:=-b) (by omega) (by omega)
 rw [Int.tmod_neg,show -m+-b=-(m+b) by omega,Int.neg_tmod] at h1
 omega
theorem Qw {a b:Int} (h0:b≠0):(a.tmod b+b).tmod b=FH a b:=by
 have hlt:(a.tmod b).natAbs<b.natAbs:=by
  rw [Int.natAbs_tmod]
  exact Nat.mod_lt _ (by omega)
 obtain ⟨m,hm⟩:∃ m,m=a.tmod b:=⟨_,rfl⟩
 unfold FH
 rw [<- hm] at hlt ⊢
 by_cases h3:m<0
 ·by_cases h4:b<0
  ·rw [if_neg (by simp [h3,h4]),MA (by omega) (by omega)]
  ·rw [if_pos (by simp [h3,h4]; omega),CH (by omega)]
 ·by_cases h4:b<0
  ·by_cases h5:m=0
   ·subst h5; simp
   ·rw [if_pos (by simp [h3,h4,h5]),CH (by omega)]
  ·rw [if_neg (by simp [h3,h4]),HI (by omega) (by omega)]
def iC (s:ByteArray) (a b:Int):Bool:=
 if s=⟨#[60]⟩ then decide (a<b)
 else if s=⟨#[62]⟩ then decide (b<a)
 else if s=⟨#[61,60]⟩ then decide (a<=b)
 else if s=⟨#[62,61]⟩ then decide (b<=a)
 else decide (a=b)
def dY (b:Bool):Int:=if b=true then 0 else 1
def Kg (s:ByteArray):List (Int × Int)->Int
 | [a,b]=>if a.2≠0 then a.2 else if b.2≠0 then b.2 else dY (iC s a.1 b.1)
 | _=>0
def dL:List ByteArray:=[⟨#[60]⟩,⟨#[62]⟩,⟨#[61,60]⟩,⟨#[62,61]⟩,⟨#[61,58,61]⟩]
abbrev QB (p:Int × Int):Value:=.tuple #[.int .i64 p.1,.int .i64 p.2]
theorem HG (s:ByteArray) (l:List ByteArray):(l.any fun x=>decide (x=s))=cJ s l:=by
 rw [cJ]
 congr 1
 funext x
 rw [decide_eq_decide]
 exact eq_comm
theorem jS {l:List T} (h:l.length=2):∃ x y,l=[x,y]:=by
 match l,h with
 | [x,y],_=>exact ⟨x,y,rfl⟩
theorem MQ (n:Int):iS n=if (decide (-999<=n) && decide (n<=999))=true then (n,0) else (0,5):=by
 unfold iS
 by_cases h:n < -999 ∨ 999<n
 ·rw [if_pos h,if_neg (by simp; omega)]
 ·rw [if_neg h,if_pos (by simp; omega)]
theorem N5 {n:Int} (h:Sm n):iS n=(n,0):=by
 unfold iS Sm at *
 rw [if_neg (by omega)]
section
attribute [local irreducible] Run CondV aB aS
theorem iW (n:Int) (S:ae):Pure Tryz.prog FD [.int .i64 n] S (QB (iS n)):=by
 intro w hI
 refine rO.2 ?_
 dsimp only[rO,aO]
 refine ⟨fun t w'=>t=.bool (decide (n < -999 ∨ 999<n))/\Inv w [] [] S w',?_,?_⟩
 ·refine bA ?_
  refine uK (fun h=>⟨?_,hI⟩) (fun h=>?_)
  ·rw [decide_eq_true (.inl (of_decide_eq_true h))]
  ·refine dv ?_
   refine nn h ⟨?_,hI⟩
   have h:=of_decide_eq_false h
   rw [Value.bool.injEq,decide_eq_decide]
   omega
 intro q _ _ _ _ _ w'
 rintro ⟨rfl,hI⟩
 refine aI (fun h=>done hI ?_) (fun h=>done hI ?_)
 ·rw [iS,if_pos h]
 ·rw [iS,if_neg h]
theorem Da (a b:Int) (h0:b≠0) (hb:Sm b) (S:ae):Pure Tryz.prog MD [.int .i64 a,.int .i64 b] S (.int .i64 (FH a b)):=by
 intro w hI
 have hm:=FI (a:=a) hb h0
 unfold Sm at hb
 refine Cy.2 ?_
 dsimp only[Cy,aX]
 refine Mt h0 ?_
 refine ⟨fun t w'=>t=.int .i64 (FH a b)/\Inv w [] [] S w',?_,?_⟩
 ·refine ⟨fun t w'=>t=.bool (decide (a.tmod b≠0/\(decide (a.tmod b<0) != decide (b<0))=true))/\Inv w [] [] S w',?_,?_⟩
  ·refine cE ?_
   refine iE (fun h=>?_) (fun h=>⟨?_,hI⟩)
   ·refine bA ?_
    refine bA ?_
    refine Gc l8 ?_
    refine gt h ⟨?_,hI⟩
    simp at h
    rw [Value.bool.injEq]
    by_cases h1:a.tmod b<0 <;> by_cases h2:b<0 <;> simp [h,h1,h2]
   ·simp at h; simp [h]
  intro q _ _ _ _ _ _ _ _ w'
  rintro ⟨rfl,hI⟩
  refine aI (fun h=>?_) (fun h=>?_)
  ·refine bn (by omega) ?_
   exact ⟨by rw [FH,if_pos h],hI⟩
  ·exact ⟨by rw [FH,if_neg h],hI⟩
 intro q _ _ _ _ _ _ _ _ _ _ _ _ w'
 rintro ⟨rfl,hI⟩
 exact done hI rfl
theorem Dv (a b:Int) (h0:b≠0) (ha:Sm a) (S:ae):Pure Tryz.prog Nc [.int .i64 a,.int .i64 b] S (.int .i64 (a.tdiv b)):=by
 intro w hI
 have:=Fp (b:=b) ha
 unfold Sm at this
 refine Bx.2 ?_
 dsimp only[Bx,aX]
 refine QQ h0 (by omega) ?_
 exact done hI rfl
theorem OS {a b:Int} (ha:Sm a) (hb:Sm b):-998001<=a * b/\a * b<=998001:=by
 unfold Sm at *
 have h1:(a * b).natAbs=a.natAbs * b.natAbs:=Int.natAbs_mul a b
 have h2:a.natAbs * b.natAbs<=999 * 999:=Nat.mul_le_mul (by omega) (by omega)
 omega
theorem Fm (s:ByteArray) (a b:Int) (ha:Sm a) (hb:Sm b) (S:ae):Pure Tryz.prog OI [.string s,.int .i64 a,.int .i64 b] S (QB (opA s a b)):=by
 intro w hI
 have ha':=ha
 have hb':=hb
 have hmul:=OS ha hb
 unfold Sm at ha hb
 refine EI.2 ?_
 dsimp only[EI,cX]
 refine bf ?_
 refine aI (fun h=>?_) (fun h1=>?_)
 ·refine bn (by omega) ?_
  refine Run.callPure mr mu hI (iW _ S) fun w' hI=>?_
  refine aj (v:=.int .i64 _) rfl ?_
  refine aj (v:=.int .i64 _) rfl ?_
  exact done hI (by rw [opA,if_pos h])
 refine bf ?_
 refine aI (fun h=>?_) (fun h2=>?_)
 ·refine ib (by omega) ?_
  refine Run.callPure mr mu hI (iW _ S) fun w' hI=>?_
  refine aj (v:=.int .i64 _) rfl ?_
  refine aj (v:=.int .i64 _) rfl ?_
  exact done hI (by rw [opA,if_neg h1,if_pos h])
 refine bf ?_
 refine aI (fun h=>?_) (fun h3=>?_)
 ·refine zd (by omega) ?_
  refine Run.callPure mr mu hI (iW _ S) fun w' hI=>?_
  refine aj (v:=.int .i64 _) rfl ?_
  refine aj (v:=.int .i64 _) rfl ?_
  exact done hI (by rw [opA,if_neg h1,if_neg h2,if_pos h])
 refine aY ?_
 refine aI (fun h=>?_) (fun h4=>?_)
 ·exact done hI (by rw [opA,if_neg h1,if_neg h2,if_neg h3,if_pos h])
 refine bf ?_
 refine aI (fun h=>?_) (fun h5=>?_)
 ·refine Run.callPure KK LD hI (Da _ _ h4 hb' S) fun w' hI=>?_
  exact done hI (by rw [opA,if_neg h1,if_neg h2,if_neg h3,if_neg h4,if_pos h])
 ·refine Run.callPure KF JZ hI (Dv _ _ h4 ha' S) fun w' hI=>?_
  exact done hI (by rw [opA,if_neg h1,if_neg h2,if_neg h3,if_neg h4,if_neg h5])
theorem cW (b:Bool) (S:ae):Pure Tryz.prog K2 [.bool b] S (.int .i64 (dY b)):=by
 intro w hI
 refine yR.2 ?_
 dsimp only[yR,aO]
 refine az (fun h=>done hI ?_) (fun h=>done hI ?_) <;> rw [h] <;> rfl
theorem dy (b:Bool) (S:ae):Pure Tryz.prog n_i_holds [.bool b] S (.int .i64 (dY b)):=by
 intro w hI
 refine sh_i_holds.2 ?_
 dsimp only[sh_i_holds,aO]
 refine az (fun h=>done hI ?_) (fun h=>done hI ?_) <;> rw [h] <;> rfl
theorem zC (s:ByteArray) (a b:Int) (S:ae):Pure Tryz.prog Ix [.string s,.int .i64 a,.int .i64 b] S (.bool (iC s a b)):=by
 intro w hI
 refine tX.2 ?_
 dsimp only[tX,cX]
 refine bf ?_
 refine aI (fun h=>bA (done hI (by rw [iC,if_pos h]))) (fun h1=>?_)
 refine bf ?_
 refine aI (fun h=>dv (done hI (by rw [iC,if_neg h1,if_pos h]))) (fun h2=>?_)
 refine bf ?_
 refine aI (fun h=>eK (done hI (by rw [iC,if_neg h1,if_neg h2,if_pos h]))) (fun h3=>?_)
 refine bf ?_
 refine aI (fun h=>fY (done hI (by rw [iC,if_neg h1,if_neg h2,if_neg h3,if_pos h]))) (fun h4=>?_)
 exact aY (done hI (by rw [iC,if_neg h1,if_neg h2,if_neg h3,if_neg h4]))
theorem td (s:ByteArray) (S:ae):Pure Tryz.prog BX [.string s] S (.bool (cJ s dL)):=by
 intro w hI
 refine oL.2 ?_
 dsimp only[oL,aO]
 refine bf ?_
 refine uK (fun h=>?_) (fun h1=>?_)
 ·refine rpG ?_
  exact done hI (by simp only [cJ,dL,List.any_cons,h,Bool.true_or])
 refine bf ?_
 refine nn h1 ?_
 refine uK (fun h=>?_) (fun h2=>?_)
 ·refine rpG ?_
  exact done hI (by simp only [cJ,dL,List.any_cons,h,Bool.true_or,Bool.or_true])
 refine bf ?_
 refine nn h2 ?_
 refine uK (fun h=>?_) (fun h3=>?_)
 ·refine rpG ?_
  exact done hI (by simp only [cJ,dL,List.any_cons,h,Bool.true_or,Bool.or_true])
 refine bf ?_
 refine nn h3 ?_
 refine uK (fun h=>?_) (fun h4=>?_)
 ·refine rpG ?_
  exact done hI (by simp only [cJ,dL,List.any_cons,h,Bool.true_or,Bool.or_true])
 refine bf ?_
 refine nn h4 ?_
 exact done hI (by simp only [cJ,dL,List.any_cons,List.any_nil,h1,h2,h3,h4,Bool.false_or,Bool.or_false])
theorem jO:∀ (t:T) (S:ae) (cs:List Value),RdT S cs t->okN t->Pure Tryz.prog Jp [.agg cs.toArray] S (QB (cj t)):=by
 refine T.ind fun k n s ks ih S cs h hn=>?_
 intro w hI
 obtain ⟨kv,rfl,_,_,_,hks⟩:=RdT.iff.1 h
 rw [okN] at hn
 simp only [T.name,T.kids,T.kind,T.n] at hks ⊢
 refine vq.2 ?_
 dsimp only[vq,aO]
 refine be hI fun b1 w' hI=>?_
 refine ad hI 0 rfl aE aw rfl ?_
 refine aY ?_
 refine aI (fun h1=>done hI (by rw [cj,if_pos h1])) (fun h1=>?_)
 refine aY ?_
 refine aI (fun h2=>?_) (fun h2=>?_)
 ·refine ad (u:=.int .i64 n) hI 0 rfl aK aw rfl ?_
  exact done hI (by rw [cj,if_neg h1,if_pos h2])
 have e0:cj (.mk k n s ks)=iT s (dw ks):=by rw [cj,if_neg h1,if_neg h2]
 rw [e0]
 refine ad hI 0 rfl aM aJ rfl ?_
 refine Run.callPure eF eH hI (dI s S) fun w' hI=>?_
 refine ⟨fun t w'=>t=.bool (!(decide (ks.length=2) && (decide (cn s=1) || decide (cn s=2))))/\Inv w [] [.blk b1 (.cells #[.int .i64 k,.int .i64 n,.string s,kv] ab)] S w',?_,?_⟩
 ·refine ad hI 0 rfl al ag rfl ?_
  refine aD hks af ?_
  refine cE ?_
  have el:decide ((ks.length:Int)=2)=decide (ks.length=2):=by rw [decide_eq_decide]; omega
  rw [el]
  cases hl:decide (ks.length=2)
  ·refine rpG ?_
   exact ⟨rfl,hI⟩
  refine rpG ?_
  refine cE ?_
  cases h3:decide (cn s=1)
  ·refine rpG ?_
   refine cE ?_
   refine rpG ?_
   exact ⟨rfl,hI⟩
  ·refine rpG ?_
   exact ⟨rfl,hI⟩
 intro q _ _ _ _ _ _ _ _ _ _ _ w'
 rintro ⟨rfl,hI⟩
 refine az (fun hc=>done hI ?_) (fun hc=>?_)
 ·match ks,hc with
  | [],_|[_],_|_::_::_::_,_=>rfl
  | [x,y],hc=>
   simp at hc
   rw [dw,dw,dw,iT,if_neg (by omega)]
 simp only [Bool.not_eq_false',Bool.and_eq_true,Bool.or_eq_true,decide_eq_true_eq] at hc
 obtain ⟨hl,hv⟩:=hc
 obtain ⟨x,y,rfl⟩:=jS hl
 have e1:iT s (dw [x,y])=if (cj x).2≠0 then (0,(cj x).2) else if (cj y).2≠0 then (0,(cj y).2) else opA s (cj x).1 (cj y).1:=by
  rw [dw,dw,dw,iT,if_pos hv]
 rw [e1]
 have nx:=fg hn.2 x (by simp)
 have ny:=fg hn.2 y (by simp)
 refine ad hI 0 rfl al ag rfl ?_
 refine ch (i:=0) hI hks af ac (by simp) (fun _ _=>RdT.length) fun cs' hcs'=>?_
 refine Run.callPure ip iD hI (ih x (by simp) S cs' hcs' nx) fun w' hI=>?_
 refine aj (v:=.int .i64 _) rfl ?_
 refine aj (v:=.int .i64 _) rfl ?_
 refine cE ?_
 refine az (fun h5=>done hI ?_) (fun h5=>?_)
 ·simp at h5
  rw [if_pos h5]
 simp at h5
 rw [if_neg (by simp [h5])]
 refine ad hI 0 rfl al ag rfl ?_
 refine ch (i:=1) hI hks af ac (by simp) (fun _ _=>RdT.length) fun cs' hcs'=>?_
 refine Run.callPure ip iD hI (ih y (by simp) S cs' hcs' ny) fun w' hI=>?_
 refine aj (v:=.int .i64 _) rfl ?_
 refine aj (v:=.int .i64 _) rfl ?_
 refine cE ?_
 refine az (fun h6=>done hI ?_) (fun h6=>?_)
 ·simp at h6
  rw [if_pos h6]
 simp at h6
 rw [if_neg (by simp [h6])]
 refine ad hI 0 rfl aM aJ rfl ?_
 refine Run.callPure Nd MV hI (Fm s _ _ (lj _ nx) (lj _ ny) S) fun w' hI=>?_
 refine aj (v:=.int .i64 _) rfl ?_
 refine aj (v:=.int .i64 _) rfl ?_
 exact done hI rfl
theorem uR {s:ByteArray} {k n:Int} {ks:List T} {S:ae} {cs:List Value} (h:RdT S cs (.mk k n s ks)) (hl:ks.length=2) (hn:xZ ks):Pure Tryz.prog DP [.agg cs.toArray] S (.int .i64 (Kg s (dw ks))):=by
 intro w hI
 obtain ⟨kv,rfl,_,_,_,hks⟩:=RdT.iff.1 h
 simp only [T.name,T.kids,T.kind,T.n] at hks ⊢
 obtain ⟨x,y,rfl⟩:=jS hl
 have nx:=fg hn x (by simp)
 have ny:=fg hn y (by simp)
 rw [dw,dw,dw,Kg]
 refine p8.2 ?_
 dsimp only[p8,aO]
 refine be hI fun b1 w' hI=>?_
 refine ad hI 0 rfl al ag rfl ?_
 refine ch (i:=0) hI hks af ac (by simp) (fun _ _=>RdT.length) fun cs' hcs'=>?_
 refine Run.callPure ip iD hI (jO x S cs' hcs' nx) fun w' hI=>?_
 refine aj (v:=.int .i64 _) rfl ?_
 refine aj (v:=.int .i64 _) rfl ?_
 refine cE ?_
 refine az (fun h5=>done hI ?_) (fun h5=>?_)
 ·simp at h5
  rw [if_pos h5]
 simp at h5
 rw [if_neg (by simp [h5])]
 refine ad hI 0 rfl al ag rfl ?_
 refine ch (i:=1) hI hks af ac (by simp) (fun _ _=>RdT.length) fun cs' hcs'=>?_
 refine Run.callPure ip iD hI (jO y S cs' hcs' ny) fun w' hI=>?_
 refine aj (v:=.int .i64 _) rfl ?_
 refine aj (v:=.int .i64 _) rfl ?_
 refine cE ?_
 refine az (fun h6=>done hI ?_) (fun h6=>?_)
 ·simp at h6
  rw [if_pos h6]
 simp at h6
 rw [if_neg (by simp [h6])]
 refine ad hI 0 rfl aM aJ rfl ?_
 refine Run.callPure FP FT hI (zC s _ _ S) fun w' hI=>?_
 refine Run.callPure dU dT hI (cW _ S) fun w' hI=>?_
 exact done hI rfl
theorem mv:∀ (t:T) (S:ae) (cs:List Value),RdT S cs t->okN t->Pure Tryz.prog MZ [.agg cs.toArray] S (QB (cj t)):=by
 refine T.ind fun k n s ks ih S0 cs h hn=>?_
 intro w hI
 obtain ⟨kv,rfl,_,_,_,hks⟩:=RdT.iff.1 h
 rw [okN] at hn
 simp only [T.name,T.kids,T.kind,T.n] at hks ⊢
 refine Az.2 ?_
 dsimp only[Az,aO]
 refine be hI fun b1 w' hI=>?_
 refine ad hI 0 rfl aE aw rfl ?_
 refine aY ?_
 refine aI (fun h2=>?_) (fun h2=>?_)
 ·refine ad (u:=.int .i64 n) hI 0 rfl aK aw rfl ?_
  exact done hI (by rw [cj,if_neg (by omega),if_pos h2])
 refine ad hI 0 rfl aE aw rfl ?_
 refine aY ?_
 refine aI (fun h1=>done hI (by rw [cj,if_pos h1])) (fun h1=>?_)
 have e0:cj (.mk k n s ks)=iT s (dw ks):=by rw [cj,if_neg h1,if_neg h2]
 rw [e0]
 refine ⟨fun t w'=>t=.bool (!(decide (ks.length=2) && cJ s (uv++ma)))/\∃ S,Sle S0 S/\Inv w [] [.blk b1 (.cells #[.int .i64 k,.int .i64 n,.string s,kv] ab)] S w',?_,?_⟩
 ·refine ad hI 0 rfl al ag rfl ?_
  refine aD hks af ?_
  refine cE ?_
  have el:decide ((ks.length:Int)=2)=decide (ks.length=2):=by rw [decide_eq_decide]; omega
  rw [el]
  cases hl:decide (ks.length=2)
  ·refine rpG ?_
   exact ⟨rfl,S0,Sle.refl _,hI⟩
  refine rpG ?_
  refine eV hI (by kernel_rfl) rfl (by omega) fun v S1 w' hE1 hv hI=>?_
  refine ad hI 0 rfl aM aJ rfl ?_
  refine Run.callPure gr fU hI (fM s hv) fun w' hI=>?_
  refine bM ?_
  refine rpG ?_
  refine ⟨?_,S1,hE1.1,hI⟩
  rw [HG]
  rfl
 intro q _ _ _ _ _ _ _ _ _ _ _ w'
 rintro ⟨rfl,S,hle,hI⟩
 have hks:=hks.monoT hle
 have hlev:cJ s (uv++ma)=true↔cn s=1 ∨ cn s=2:=by
  have e1:cJ s (uv++ma)=(cJ s uv || cJ s ma):=by rw [cJ,List.any_append]; rfl
  rw [e1]
  unfold cn
  have hex:cJ s pi=true->cJ s uv=false/\cJ s ma=false:=by
   intro hc
   rw [cJ,List.any_eq_true] at hc
   obtain ⟨x,hx,hd⟩:=hc
   have hd:=of_decide_eq_true hd
   subst hd
   simp only [pi,List.mem_cons,List.not_mem_nil,or_false] at hx
   rcases hx with rfl|rfl|rfl|rfl|rfl|rfl|rfl|rfl|rfl <;> exact ⟨by decide +kernel,by decide +kernel⟩
  cases hc:cJ s pi
  ·cases hs:cJ s uv <;> cases hp:cJ s ma <;> simp
  ·simp [hex hc]
 refine az (fun hc=>gg hI hle ?_) (fun hc=>?_)
 ·match ks,hc with
  | [],_|[_],_|_::_::_::_,_=>rfl
  | [x,y],hc=>
   have hc:cJ s (uv++ma)=false:=by simpa using hc
   rw [dw,dw,dw,iT,if_neg (by rw [<- hlev,hc]; decide)]
 simp only [Bool.not_eq_false',Bool.and_eq_true,decide_eq_true_eq] at hc
 obtain ⟨hl,hv⟩:=hc
 rw [hlev] at hv
 obtain ⟨x,y,rfl⟩:=jS hl
 have e1:iT s (dw [x,y])=if (cj x).2≠0 then (0,(cj x).2) else if (cj y).2≠0 then (0,(cj y).2) else opA s (cj x).1 (cj y).1:=by
  rw [dw,dw,dw,iT,if_pos hv]
 rw [e1]
 have nx:=fg hn.2 x (by simp)
 have ny:=fg hn.2 y (by simp)
 refine ad hI 0 rfl al ag rfl ?_
 refine ch (i:=0) hI hks af ac (by simp) (fun _ _=>RdT.length) fun cs' hcs'=>?_
 refine Run.callPure kO kS hI (ih x (by simp) S cs' hcs' nx) fun w' hI=>?_
 refine aj (v:=.int .i64 _) rfl ?_
 refine aj (v:=.int .i64 _) rfl ?_
 refine cE ?_
 refine az (fun h5=>gg hI hle ?_) (fun h5=>?_)
 ·simp at h5
  rw [if_pos h5]
 simp at h5
 rw [if_neg (by simp [h5])]
 refine ad hI 0 rfl al ag rfl ?_
 refine ch (i:=1) hI hks af ac (by simp) (fun _ _=>RdT.length) fun cs' hcs'=>?_
 refine Run.callPure kO kS hI (ih y (by simp) S cs' hcs' ny) fun w' hI=>?_
 refine aj (v:=.int .i64 _) rfl ?_
 refine aj (v:=.int .i64 _) rfl ?_
 refine cE ?_
 refine az (fun h6=>gg hI hle ?_) (fun h6=>?_)
 ·simp at h6
  rw [if_pos h6]
 simp at h6
 rw [if_neg (by simp [h6])]
 have ax:=lj x nx
 have ay:=lj y ny
 obtain ⟨a,ha⟩:∃ a,a=(cj x).1:=⟨_,rfl⟩
 obtain ⟨b,hb⟩:∃ b,b=(cj y).1:=⟨_,rfl⟩
 rw [<- ha] at ax ⊢
 rw [<- hb] at ay ⊢
 have hmul:=OS ax ay
 have ax':=ax
 have ay':=ay
 unfold Sm at ax ay
 refine ⟨fun q w'=>∃ m:Int,q=.int .i64 m/\opA s a b=iS m/\Inv w [] [.blk b1 (.cells #[.int .i64 k,.int .i64 n,.string s,kv] ab)] S w',?_,?_⟩
 ·refine ad hI 0 rfl aM aJ rfl ?_
  refine bf ?_
  refine aI (fun h=>?_) (fun h1=>?_)
  ·exact bn (by omega) ⟨_,rfl,by rw [opA,if_pos h],hI⟩
  refine bf ?_
  refine aI (fun h=>?_) (fun h2=>?_)
  ·exact ib (by omega) ⟨_,rfl,by rw [opA,if_neg h1,if_pos h],hI⟩
  refine bf ?_
  refine aI (fun h=>?_) (fun h3=>?_)
  ·exact zd (by omega) ⟨_,rfl,by rw [opA,if_neg h1,if_neg h2,if_pos h],hI⟩
  refine aY ?_
  refine aI (fun h=>?_) (fun h4=>?_)
  ·exact gg hI hle (by rw [opA,if_neg h1,if_neg h2,if_neg h3,if_pos h])
  have hd:=Fp (b:=b) ax'
  have hd':=hd
  unfold Sm at hd
  refine QQ h4 (by omega) ?_
  refine ad hI 0 rfl aM aJ rfl ?_
  refine bf ?_
  refine aI (fun h=>?_) (fun h5=>?_)
  ·have hm:=FI (a:=a) ay' h4
   refine Mt h4 ?_
   refine bn (by omega) ?_
   refine Mt h4 ?_
   refine ⟨_,rfl,?_,hI⟩
   rw [opA,if_neg h1,if_neg h2,if_neg h3,if_neg h4,if_pos h,Qw h4,N5 (Mc ay' h4)]
  ·refine ⟨_,rfl,?_,hI⟩
   rw [opA,if_neg h1,if_neg h2,if_neg h3,if_neg h4,if_neg h5,N5 hd']
 intro _ _ _ _ _ _ _ _ _ _ _ _ _ _ _ _ _ _ _ _ _ _ _ _ _ _ _ q _ _ _ _ _ _ _ w'
 rintro ⟨m,rfl,hop,hI⟩
 refine Run.callPure g7 ia hI (gw _ _ _ S) fun w' hI=>?_
 refine bM ?_
 rw [hop,MQ]
 refine az (fun hc=>gg hI hle ?_) (fun hc=>gg hI hle ?_)
 ·rw [Bool.not_eq_true'] at hc
  rw [hc]; rfl
 ·rw [Bool.not_eq_false'] at hc
  rw [hc]; rfl
def QC (t:T):Bool:=decide (t.kind=3) && (decide (t.kids.length=2) && cJ t.name dL)
theorem xt {t:T} {S0:ae} {cs:List Value} (h:RdT S0 cs t):Pure Tryz.prog GP [.agg cs.toArray] S0 (.bool (QC t)):=by
 intro w hI
 obtain ⟨kv,rfl,_,_,_,hks⟩:=RdT.iff.1 h
 refine r8.2 ?_
 dsimp only[r8,aO]
 unfold QC
 refine be hI fun b1 w' hI=>?_
 refine ad hI 0 rfl aE aw rfl ?_
 refine aY ?_
 have el:decide ((t.kids.length:Int)=2)=decide (t.kids.length=2):=by rw [decide_eq_decide]; omega
 cases hk:decide (t.kind=3)
 ·refine rpG ?_
  exact done hI rfl
 refine rpG ?_
 refine ad hI 0 rfl al ag rfl ?_
 refine aD hks af ?_
 refine aY ?_
 rw [el]
 refine rpG ?_
 cases hl:decide (t.kids.length=2)
 ·refine rpG ?_
  exact done hI rfl
 refine rpG ?_
 refine eV hI (by kernel_rfl) rfl (by omega) fun v S1 w' hE1 hv hI=>?_
 refine ad hI 0 rfl aM aJ rfl ?_
 refine Run.callPure gr fU hI (fM t.name hv) fun w' hI=>?_
 refine rpG ?_
 refine gg hI hE1.1 ?_
 rw [HG]
 rfl
theorem xH {s:ByteArray} {k n:Int} {ks:List T} {S:ae} {cs:List Value} (h:RdT S cs (.mk k n s ks)) (hl:ks.length=2) (hn:xZ ks):Pure Tryz.prog GO [.agg cs.toArray] S (.int .i64 (Kg s (dw ks))):=by
 intro w hI
 obtain ⟨kv,rfl,_,_,_,hks⟩:=RdT.iff.1 h
 simp only [T.name,T.kids,T.kind,T.n] at hks ⊢
 obtain ⟨x,y,rfl⟩:=jS hl
 have nx:=fg hn x (by simp)
 have ny:=fg hn y (by simp)
 rw [dw,dw,dw,Kg]
 refine sD.2 ?_
 dsimp only[sD,aO]
 refine be hI fun b1 w' hI=>?_
 refine ad hI 0 rfl al ag rfl ?_
 refine ch (i:=0) hI hks af ac (by simp) (fun _ _=>RdT.length) fun cs' hcs'=>?_
 refine Run.callPure kO kS hI (mv x S cs' hcs' nx) fun w' hI=>?_
 refine aj (v:=.int .i64 _) rfl ?_
 refine aj (v:=.int .i64 _) rfl ?_
 refine cE ?_
 refine az (fun h5=>done hI ?_) (fun h5=>?_)
 ·simp at h5
  rw [if_pos h5]
 simp at h5
 rw [if_neg (by simp [h5])]
 refine ad hI 0 rfl al ag rfl ?_
 refine ch (i:=1) hI hks af ac (by simp) (fun _ _=>RdT.length) fun cs' hcs'=>?_
 refine Run.callPure kO kS hI (mv y S cs' hcs' ny) fun w' hI=>?_
 refine aj (v:=.int .i64 _) rfl ?_
 refine aj (v:=.int .i64 _) rfl ?_
 refine cE ?_
 refine az (fun h6=>done hI ?_) (fun h6=>?_)
 ·simp at h6
  rw [if_pos h6]
 simp at h6
 rw [if_neg (by simp [h6])]
 refine ad hI 0 rfl aM aJ rfl ?_
 have hcode:∀ (b:Bool) {w':World} {L:List Item},Inv w [] L S w'->iC s (cj x).1 (cj y).1=b->Run Tryz.prog (eA (.func (.func n_i_holds) #[] #[]) [.bool b]) w' fun v w''=>Ending.returned v=.returned (.int .i64 (dY (iC s (cj x).1 (cj y).1)))/\Inv w [] [] S w'':=fun b w' L hI e=>
  Run.callPure fn_i_holds nm_i_holds hI (dy b S) fun w' hI=>done hI (by rw [e])
 refine bf ?_
 refine aI (fun h=>bA (hcode _ hI (by rw [iC,if_pos h]))) (fun h1=>?_)
 refine bf ?_
 refine aI (fun h=>dv (hcode _ hI (by rw [iC,if_neg h1,if_pos h]))) (fun h2=>?_)
 refine bf ?_
 refine aI (fun h=>eK (hcode _ hI (by rw [iC,if_neg h1,if_neg h2,if_pos h]))) (fun h3=>?_)
 refine bf ?_
 refine aI (fun h=>fY (hcode _ hI (by rw [iC,if_neg h1,if_neg h2,if_neg h3,if_pos h]))) (fun h4=>?_)
 exact aY (hcode _ hI (by rw [iC,if_neg h1,if_neg h2,if_neg h3,if_neg h4]))
end
end
section
open Go Go.RowKit
def zT:T:=.mk 0 0 ⟨#[]⟩ []
def kd (g:T) (i:Nat):T:=g.kids.getD i zT
inductive BJ where
 | done (c:Int)
 | uni (a b:T)
 | not (a b:T)
def qt (n t u:T):BJ:=if n.kind=1 ∨ t.kind=1 then .done 2 else if n.kind≠2 ∨ t.kind≠3 ∨ t.kids.length=0 then .done 3
 else if n.n<1 ∨ (t.kids.length:Int)<n.n then .done 1 else .uni u (kd t (n.n.toNat - 1))
def jY (s:ByteArray) (t:T):Bool:=if s=⟨#[118,97,114]⟩ then decide (t.kind=1) else if s=⟨#[110,111,110,118,97,114]⟩ then !decide (t.kind=1)
 else if s=⟨#[105,110,116]⟩ then decide (t.kind=2) else decide (t.kind=3) && decide (t.kids.length=0)
abbrev gE:ByteArray:=⟨#[116,114,117,101]⟩
abbrev g9:ByteArray:=⟨#[102,97,105,108]⟩
abbrev nEq:ByteArray:=⟨#[61]⟩
abbrev nNe:ByteArray:=⟨#[92,61]⟩
abbrev lH:ByteArray:=⟨#[61,61]⟩
abbrev nIs:ByteArray:=⟨#[105,115]⟩
abbrev zI:ByteArray:=⟨#[97,114,103]⟩
def Du (n:Int):T:=.mk 2 n emptyB []
def eP (g:T):BJ:=
 if g.name=gE then .done 0
 else if g.name=g9 then .done 1
 else if g.name=nEq then .uni (kd g 0) (kd g 1)
 else if g.name=nNe then .not (kd g 0) (kd g 1)
 else if g.name=lH then .done (dY (eqT (kd g 0) (kd g 1)))
 else if g.name=nIs then (if (cj (kd g 1)).2≠0 then .done (cj (kd g 1)).2 else .uni (kd g 0) (Du (cj (kd g 1)).1))
 else if g.name=zI then qt (kd g 0) (kd g 1) (kd g 2)
 else if cJ g.name dL=true then .done (Kg g.name (dw g.kids))
 else .done (dY (jY g.name (kd g 0)))
def BltJ (st:aC) (j:BJ) (code:Int) (st':aC):Prop:=match j with
 | .done c=>code=c/\st'=st
 | .uni a b=>∃ r,Uni st (.one a b) r st'/\code=dY r
 | .not a b=>st'=st/\∃ r st1,Uni st (.one a b) r st1/\code=dY (!r)
def Blt (st:aC) (g:T) (code:Int) (st':aC):Prop:=BltJ st (eP g) code st'
theorem gA {s:ByteArray} {n:Int} (hs:cJ s pi=true) (h:dD s n=true):n=2:=by
 rw [dD,if_pos hs] at h
 exact of_decide_eq_true h
theorem Mo {n:Int} (h:dD zI n=true):n=3:=by
 rw [dD,if_neg (by decide +kernel),if_neg (by decide +kernel),if_neg (by decide +kernel),if_pos rfl] at h
 exact of_decide_eq_true h
theorem Bo {s:ByteArray} {l:List ByteArray}:cJ s l=false↔∀ x∈l,s≠x:=by
 rw [cJ,List.any_eq_false]
 simp
theorem Mq {s:ByteArray} (h:cJ s dL=true):cJ s pi=true:=by
 rw [cJ,List.any_eq_true] at h ⊢
 obtain ⟨x,hx,hd⟩:=h
 refine ⟨x,?_,hd⟩
 simp only [dL,List.mem_cons,List.not_mem_nil,or_false] at hx
 rcases hx with rfl|rfl|rfl|rfl|rfl <;> simp [pi]
theorem nj {s:ByteArray} {n:Int} (h:dD s n=true) (h1:s≠gE) (h2:s≠g9) (h3:s≠nEq) (h4:s≠nNe) (h5:s≠lH) (h6:s≠nIs) (hc:cJ s dL=false) :
  (cJ s rG=true/\n=1) ∨ (s=zI/\n=3):=by
 have hk:cJ s pi=false:=by
  rw [Bo] at hc ⊢
  intro x hx
  simp only [pi,List.mem_cons,List.not_mem_nil,or_false] at hx
  rcases hx with rfl|rfl|rfl|rfl|rfl|rfl|rfl|rfl|rfl <;> first|assumption|exact hc _ (by simp [dL])
 have hk2:cJ s og=false:=by
  rw [Bo]
  intro x hx
  simp only [og,List.mem_cons,List.not_mem_nil,or_false] at hx
  rcases hx with rfl|rfl <;> assumption
 rw [dD,hk,hk2,if_neg (by decide),if_neg (by decide)] at h
 cases ht:cJ s rG
 ·rw [ht,if_neg (by decide)] at h
  split at h
  ·rename_i e; exact .inr ⟨e,of_decide_eq_true h⟩
  ·cases h
 ·rw [ht,if_pos rfl] at h
  exact .inl ⟨rfl,of_decide_eq_true h⟩
theorem Bi {l:List T} (h:l.length=1):∃ x,l=[x]:=by
 match l,h with
 | [x],_=>exact ⟨x,rfl⟩
theorem Jo {l:List T} (h:l.length=3):∃ x y z,l=[x,y,z]:=by
 match l,h with
 | [x,y,z],_=>exact ⟨x,y,z,rfl⟩
def SD (N:Nat):BJ->Prop
 | .done _=>True
 | .uni a b=>okJ N (.one a b)
 | .not a b=>okJ N (.one a b)
theorem BltJ.ex {N:Nat} {st:aC} {j:BJ} (hg:Good N st) (hj:SD N j):∃ c st',BltJ st j c st':=by
 match j,hj with
 | .done c,_=>exact ⟨c,st,rfl,rfl⟩
 | .uni a b,hj=>
  have hj:okJ N (.one a b):=hj
  obtain ⟨r,st',hu⟩:=GS (unb st) st hg (Nat.le_refl _) _ hj
  exact ⟨_,st',r,hu,rfl⟩
 | .not a b,hj=>
  have hj:okJ N (.one a b):=hj
  obtain ⟨r,st',hu⟩:=GS (unb st) st hg (Nat.le_refl _) _ hj
  exact ⟨_,st,rfl,r,st',hu,rfl⟩
theorem QD (N:Nat) (n:Int):okU N (Du n):=by
 rw [Du,okU,dC]
 exact ⟨by decide,(fun h=>by cases h),trivial,by decide +kernel⟩
theorem Ru {g:T} {i:Nat} (h:i<g.kids.length):kd g i∈g.kids:=by
 rw [kd,List.getD_eq_getElem?_getD,List.getElem?_eq_getElem h]
 exact List.getElem_mem h
theorem yM {N:Nat} {g:T} {i:Nat} (ho:okU N g/\wT g<=1048576) (h:i<g.kids.length):okU N (kd g i)/\wT (kd g i)<=1048576:=jf ho _ (Ru h)
theorem Ae {N:Nat} {g:T} (hb:cM g=true) (ho:okU N g/\wT g<=1048576):SD N (eP g):=by
 rw [cM,Bool.and_eq_true] at hb
 have hb:=hb.2
 have hlen:∀ m:Nat,((g.kids.length:Nat):Int)=m->g.kids.length=m:=fun m h=>by omega
 unfold eP
 split
 ·trivial
 split
 ·trivial
 split
 ·rename_i h; rw [h] at hb
  have:=gA (by decide +kernel) hb
  exact ⟨yM ho (by omega),yM ho (by omega)⟩
 split
 ·rename_i h; rw [h] at hb
  have:=gA (by decide +kernel) hb
  exact ⟨yM ho (by omega),yM ho (by omega)⟩
 split
 ·trivial
 split
 ·rename_i h; rw [h] at hb
  have:=gA (by decide +kernel) hb
  split
  ·trivial
  ·exact ⟨yM ho (by omega),QD N _,by have e:emptyB.size=0:=rfl; simp only [Du,wT,wL,List.length_nil]; omega⟩
 split
 ·rename_i h; rw [h] at hb
  have:=Mo hb
  unfold qt
  split
  ·trivial
  split
  ·trivial
  split
  ·trivial
  ·rename_i h1 h2 h3
   have k1:=yM (i:=1) ho (by omega)
   exact ⟨yM ho (by omega),yM k1 (by omega)⟩
 split
 ·trivial
 ·trivial
theorem Blt.ex {N:Nat} {st:aC} {g:T} (hg:Good N st) (hb:cM g=true) (ho:okU N g/\wT g<=1048576):∃ c st',Blt st g c st':=BltJ.ex hg (Ae hb ho)
theorem Blt.good {N:Nat} {st st':aC} {g:T} {c:Int} (hg:Good N st) (hb:cM g=true) (ho:okU N g/\wT g<=1048576) (h:Blt st g c st'):Good N st':=by
 have hj:=Ae hb ho
 unfold Blt at h
 match hb:eP g,h,hj with
 | .done c,h,_=>exact h.2 ▸ hg
 | .uni a b,⟨r,hu,_⟩,hj=>exact (hu.good hg hj).1
 | .not a b,h,_=>exact h.1 ▸ hg
theorem RdSl.ptr {α:Type} {S:ae} {k:Nat} {R:List Value->α->Prop} {v:Value} {xs:List α} (h:RdSl S k R v xs) (hi:0<xs.length) :
  ∃ b o cap c E fz,v=.slice (some ⟨b,o,none⟩) xs.length cap/\S b=some (.cells c E fz)/\∀ i (h:i<xs.length),R (aH c (o+i * k) k) xs[i]:=by
 obtain ⟨a,cap,rfl,hl,hc,h⟩:=h
 rcases h with h|⟨b,o,c,E,fz,rfl,hS,h⟩
 ·subst h; simp at hi
 ·exact ⟨b,o,cap,c,E,fz,rfl,hS,h⟩
section
attribute [local irreducible] Run CondV aB aS
theorem BN {k n:Int} {s:ByteArray} {x:T} {S:ae} {cs:List Value} (h:RdT S cs (.mk k n s [x])):Pure Tryz.prog Lc [.agg cs.toArray] S (.int .i64 (dY (jY s x))):=by
 intro w hI
 obtain ⟨kv,rfl,_,_,_,hks⟩:=RdT.iff.1 h
 simp only [T.name,T.kids,T.kind,T.n] at hks ⊢
 refine yV.2 ?_
 dsimp only[yV,aO]
 refine be hI fun b1 w' hI=>?_
 refine ad hI 0 rfl al ag rfl ?_
 refine ch (i:=0) hI hks af ac (by simp) (fun _ _=>RdT.length) fun ds hds=>?_
 have hds:RdT S ds x:=hds
 refine aG hI aP fun b3 w' hI=>?_
 refine ao hI 1 rfl ac (by simpa using hds.length) rfl (by simpa using hds.one) fun w' hI=>?_
 obtain ⟨kv2,rfl,_,_,_,hk2⟩:=RdT.iff.1 hds
 have hI:Inv w [] [.blk b1 (.cells #[.int .i64 k,.int .i64 n,.string s,kv] ab),.blk b3 (.cells #[.int .i64 x.kind,.int .i64 x.n,.string x.name,kv2] ab)] S w':=hI
 refine ad hI 0 rfl aM aJ rfl ?_
 refine bf ?_
 refine aI (fun h=>?_) (fun h1=>?_)
 ·refine ad hI 1 rfl aE aw rfl ?_
  refine aY ?_
  exact Run.callPure dU dT hI (cW _ S) fun w' hI=>done hI (by rw [jY,if_pos h])
 refine bf ?_
 refine aI (fun h=>?_) (fun h2=>?_)
 ·refine ad hI 1 rfl aE aw rfl ?_
  refine cE ?_
  exact Run.callPure dU dT hI (cW _ S) fun w' hI=>done hI (by rw [jY,if_neg h1,if_pos h])
 refine bf ?_
 refine aI (fun h=>?_) (fun h3=>?_)
 ·refine ad hI 1 rfl aE aw rfl ?_
  refine aY ?_
  exact Run.callPure dU dT hI (cW _ S) fun w' hI=>done hI (by rw [jY,if_neg h1,if_neg h2,if_pos h])
 refine ad hI 1 rfl aE aw rfl ?_
 refine aY ?_
 have et:jY s x=(decide (x.kind=3) && decide (x.kids.length=0)):=by rw [jY,if_neg h1,if_neg h2,if_neg h3]
 rw [et]
 cases hk:decide (x.kind=3)
 ·refine rpG ?_
  exact Run.callPure dU dT hI (cW _ S) fun w' hI=>done hI rfl
 refine rpG ?_
 refine ad hI 1 rfl al ag rfl ?_
 refine aD hk2 af ?_
 refine aY ?_
 refine rpG ?_
 refine Run.callPure dU dT hI (cW _ S) fun w' hI=>done hI ?_
 have el:decide ((x.kids.length:Int)=0)=decide (x.kids.length=0):=by rw [decide_eq_decide]; omega
 rw [el,Bool.true_and]
def PZ (S:ae) (j:BJ):Value->List Item->ae->Prop:=fun q I' S'=>I'=[]/\S'=S/\∃ (ds:List Value) (c:Int),q=.tuple #[.agg ds.toArray,.int .i64 c]/\ds.length=4/\(∀ u∈ds,u.oneCell'=true)/\match j with
 | .done c'=>c=c'/\c≠0
 | .uni _ b=>c=0/\RdT S ds b
 | .not _ _=>False
theorem DQ {k n:Int} {s:ByteArray} {x y z:T} {S:ae} {cs:List Value} (h:RdT S cs (.mk k n s [x,y,z])):Tri Tryz.prog Ne [.agg cs.toArray] [] S (PZ S (qt x y z)):=by
 intro w hI
 obtain ⟨kv,rfl,_,_,_,hks⟩:=RdT.iff.1 h
 simp only [T.name,T.kids,T.kind,T.n] at hks ⊢
 refine BG.2 ?_
 dsimp only[BG,aO]
 refine be hI fun b1 w' hI=>?_
 refine aG hI aP fun b2 w' hI=>?_
 refine ad hI 0 rfl al ag rfl ?_
 refine ch (i:=0) hI hks af ac (by simp) (fun _ _=>RdT.length) fun xs hxs=>?_
 have hxs:RdT S xs x:=hxs
 refine aG hI aP fun b4 w' hI=>?_
 refine ao hI 2 rfl ac (by simpa using hxs.length) rfl (by simpa using hxs.one) fun w' hI=>?_
 refine ad hI 0 rfl al ag rfl ?_
 refine ch (i:=1) hI hks af ac (by simp) (fun _ _=>RdT.length) fun ys hys=>?_
 have hys:RdT S ys y:=hys
 refine aG hI aP fun b5 w' hI=>?_
 refine ao hI 3 rfl ac (by simpa using hys.length) rfl (by simpa using hys.one) fun w' hI=>?_
 obtain ⟨kx,rfl,_,_,_,hkx⟩:=RdT.iff.1 hxs
 obtain ⟨ky,rfl,_,_,_,hky⟩:=RdT.iff.1 hys
 obtain ⟨L,hL⟩:∃ L:List Item,L=[.blk b1 (.cells #[.int .i64 k,.int .i64 n,.string s,kv] ab),.blk b2 (.cells #[.int .i64 0,.int .i64 0,.string ⟨#[]⟩,.slice none 0 0] ab),.blk b4 (.cells #[.int .i64 x.kind,.int .i64 x.n,.string x.name,kx] ab),.blk b5 (.cells #[.int .i64 y.kind,.int .i64 y.n,.string y.name,ky] ab)]:=⟨_,rfl⟩
 have hI:Inv w [] L S w':=by rw [hL]; exact hI
 have i1:L[1]?=some (.blk b2 (.cells #[.int .i64 0,.int .i64 0,.string ⟨#[]⟩,.slice none 0 0] ab)):=by rw [hL]; rfl
 have i2:L[2]?=some (.blk b4 (.cells #[.int .i64 x.kind,.int .i64 x.n,.string x.name,kx] ab)):=by rw [hL]; rfl
 have i3:L[3]?=some (.blk b5 (.cells #[.int .i64 y.kind,.int .i64 y.n,.string y.name,ky] ab)):=by rw [hL]; rfl
 have hz:∀ u∈([.int .i64 0,.int .i64 0,.string ⟨#[]⟩,.slice none 0 0]:List Value),u.oneCell'=true:=by simp [Value.oneCell']
 have el:decide ((y.kids.length:Int)=0)=decide (y.kids.length=0):=by rw [decide_eq_decide]; omega
 refine ⟨fun q w'=>q=.bool (decide (x.kind=1 ∨ y.kind=1))/\Inv w [] L S w',?_,?_⟩
 ·refine ad hI 2 i2 aE aw rfl ?_
  refine aY ?_
  cases h1:decide (x.kind=1)
  ·refine rpG ?_
   refine ad hI 3 i3 aE aw rfl ?_
   refine aY ?_
   refine rpG ?_
   refine ⟨?_,hI⟩
   rw [Value.bool.injEq,decide_eq_decide]
   have:=of_decide_eq_false h1
   exact ⟨.inr,fun h=>h.resolve_left this⟩
  ·refine rpG ?_
   exact ⟨by rw [decide_eq_true (.inl (of_decide_eq_true h1))],hI⟩
 intro q _ _ _ _ _ _ _ w'
 rintro ⟨rfl,hI⟩
 refine aI (fun h1=>?_) (fun h1=>?_)
 ·refine fD ?_
  refine ao hI 1 i1 ac rfl rfl hz fun w' hI=>?_
  rw [hL] at hI
  refine aW hI 1 ac rfl rfl ?_
  refine ⟨_,_,_,rfl,hI.nil,Ext.refl _ _ _,rfl,rfl,_,2,rfl,rfl,hz,?_⟩
  rw [qt,if_pos h1]
  exact ⟨rfl,by decide⟩
 refine ⟨fun q w'=>q=.bool (decide (x.kind≠2 ∨ y.kind≠3 ∨ y.kids.length=0))/\Inv w [] L S w',?_,?_⟩
 ·refine ad hI 2 i2 aE aw rfl ?_
  refine cE ?_
  cases h2:decide (x.kind=2)
  ·refine rpG ?_
   exact ⟨by rw [decide_eq_true (.inl (of_decide_eq_false h2))],hI⟩
  have h2:=of_decide_eq_true h2
  refine rpG ?_
  refine ad hI 3 i3 aE aw rfl ?_
  refine cE ?_
  cases h3:decide (y.kind=3)
  ·refine rpG ?_
   exact ⟨by rw [decide_eq_true (.inr (.inl (of_decide_eq_false h3)))],hI⟩
  have h3:=of_decide_eq_true h3
  refine rpG ?_
  refine ad hI 3 i3 al ag rfl ?_
  refine aD hky af ?_
  refine aY ?_
  rw [el]
  refine rpG ?_
  refine ⟨?_,hI⟩
  rw [Value.bool.injEq,decide_eq_decide]
  simp [h2,h3]
 intro q _ _ _ _ _ _ _ _ _ _ _ _ _ w'
 rintro ⟨rfl,hI⟩
 refine aI (fun h2=>?_) (fun h2=>?_)
 ·refine fD ?_
  refine ao hI 1 i1 ac rfl rfl hz fun w' hI=>?_
  rw [hL] at hI
  refine aW hI 1 ac rfl rfl ?_
  refine ⟨_,_,_,rfl,hI.nil,Ext.refl _ _ _,rfl,rfl,_,3,rfl,rfl,hz,?_⟩
  rw [qt,if_neg h1,if_pos h2]
  exact ⟨rfl,by decide⟩
 refine ⟨fun q w'=>q=.bool (decide (x.n<1 ∨ (y.kids.length:Int)<x.n))/\Inv w [] L S w',?_,?_⟩
 ·refine ad hI 2 i2 aK aw rfl ?_
  refine bA ?_
  cases h3:decide (x.n<1)
  ·refine rpG ?_
   refine ad hI 2 i2 aK aw rfl ?_
   refine ad hI 3 i3 al ag rfl ?_
   refine aD hky af ?_
   refine dv ?_
   refine rpG ?_
   refine ⟨?_,hI⟩
   have:=of_decide_eq_false h3
   rw [Value.bool.injEq,decide_eq_decide]
   exact ⟨.inr,fun h=>h.resolve_left this⟩
  ·refine rpG ?_
   exact ⟨by rw [decide_eq_true (.inl (of_decide_eq_true h3))],hI⟩
 intro q _ _ _ _ _ _ _ _ _ _ w'
 rintro ⟨rfl,hI⟩
 refine aI (fun h3=>?_) (fun h3=>?_)
 ·refine fD ?_
  refine ao hI 1 i1 ac rfl rfl hz fun w' hI=>?_
  rw [hL] at hI
  refine aW hI 1 ac rfl rfl ?_
  refine ⟨_,_,_,rfl,hI.nil,Ext.refl _ _ _,rfl,rfl,_,1,rfl,rfl,hz,?_⟩
  rw [qt,if_neg h1,if_neg h2,if_pos h3]
  exact ⟨rfl,by decide⟩
 obtain ⟨m,hm⟩:∃ m:Nat,x.n=(m:Int)+1:=⟨(x.n - 1).toNat,by omega⟩
 have hml:m<y.kids.length:=by omega
 refine ad hI 3 i3 al ag rfl ?_
 refine ad (u:=.int .i64 x.n) hI 2 i2 aK aw rfl ?_
 rw [hm]
 refine ib (by have:=hky.le; simp only [maxLen] at this; omega) ?_
 rw [Int.add_sub_cancel]
 refine ch (i:=m) hI hky af ac hml (fun _ _=>RdT.length) fun es hes=>?_
 refine ao hI 1 i1 ac (by simpa using hes.length) rfl (by simpa using hes.one) fun w' hI=>?_
 rw [hL] at hI
 refine aW hI 1 ac rfl (by simpa using hes.length) ?_
 refine ⟨_,_,_,rfl,hI.nil,Ext.refl _ _ _,rfl,rfl,es,0,rfl,hes.length,hes.one,?_⟩
 rw [qt,if_neg h1,if_neg h2,if_neg h3]
 refine ⟨rfl,?_⟩
 have e:kd y (x.n.toNat - 1)=y.kids[m]:=by
  have e1:x.n.toNat - 1=m:=by omega
  rw [e1,kd,List.getD_eq_getElem?_getD,List.getElem?_eq_getElem hml]
  rfl
 rw [e]
 exact hes
end
end
section
open Go Go.RowKit
section
attribute [local irreducible] Run CondV aB aS
def Mv (kb:Nat) (S:ae) (code:Int) (st':aC):Value->List Item->ae->Prop:=fun q I' S'=>S'=S/\q=.int .i64 code/\∃ kc',I'=[.blk kb (.cells kc' ab)]/\KnU S kc' st'
def neSt (w0:World) (X:List Nat) (A:List Item) (S:ae) (N:Nat) (st:aC) (r:Bool) (gX na jG:Value) (w':World):Nat->Prop
 | 0=>Inv w0 X A S w'
 | 1=>Inv w0 X (A++[.row gX ab 4 0 []]) S w'
 | 2=>∃ g cap cur,na=kvU g N cap/\KnU S cur st/\Inv w0 X (A++[.blk g (.cells cur ab)]) S w'
 | _=>jG=.bool r/\∃ R,Inv w0 X (A++R) S w'
theorem neSt.inv {w0 w':World} {X:List Nat} {A:List Item} {S:ae} {N:Nat} {st:aC} {r:Bool} {gX na jG:Value}:∀ {n:Nat},neSt w0 X A S N st r gX na jG w' n->∃ R,Inv w0 X (A++R) S w'
 | 0,h=>⟨[],by rw [List.append_nil]; exact h⟩
 | 1,h=>⟨_,h⟩
 | 2,⟨_,_,_,_,_,h⟩=>⟨_,h⟩
 | _+3,h=>h.2
set_option maxHeartbeats 1000000 in
theorem oT {N kp:Nat} (hN:N<=1000000) (hN0:0<N) (hkp:N<=kp) (hkp2:kp<=maxLen) {st st':aC} {g:T} {code:Int} (hg:Good N st) (ho:okU N g/\wT g<=1048576) (hn:okN g) (hb:cM g=true) (hB:Blt st g code st')
  {S:ae} {cs:List Value} {kb:Nat} {kc:Array Value} (h:RdT S cs g) (hk:KnU S kc st):Tri Tryz.prog Hm [.agg cs.toArray,kvU kb N kp] [.blk kb (.cells kc ab)] S (Mv kb S code st'):=by
 intro w hI
 have hgl:=h
 obtain ⟨k,n,s,ks⟩:=g
 obtain ⟨kv,rfl,_,_,_,hks⟩:=RdT.iff.1 h
 have hbj:=Ae hb ho
 rw [cM,Bool.and_eq_true] at hb
 have hbs:=hb.2
 rw [okN] at hn
 simp only [T.name,T.kids,T.kind,T.n] at hks hbs hgl ⊢
 obtain ⟨X,hX⟩:∃ X,X=bE [Item.blk kb (.cells kc ab)]:=⟨_,rfl⟩
 rw [<- hX] at hI ⊢
 unfold Blt at hB
 clear h
 refine vz.2 ?_
 dsimp only[vz,aX]
 refine be hI fun b2 w' hI=>?_
 have hI:Inv w X [.blk b2 (.cells #[.int .i64 k,.int .i64 n,.string s,kv] ab),.blk kb (.cells kc ab)] S w':=hI.perm (List.Perm.swap ..)
 have fin:∀ {w':World} {L:List Item} {j:BJ} (c:Int),j=.done c->BltJ st j code st'->Inv w X L S w'->List.Sublist [.blk kb (.cells kc ab)] L->
   ∃ v' I' S',Ending.returned (.int .i64 c)=.returned v'/\Inv w X I' S' w'/\Ext w.heap.size X S S'/\Mv kb S code st' v' I' S':=by
  intro w' L j c hj hB hI hs
  subst hj
  obtain ⟨rfl,rfl⟩:=hB
  exact ⟨_,_,S,rfl,hI.sub hs,Ext.refl _ _ _,rfl,rfl,kc,rfl,hk⟩
 refine ad hI 0 rfl aM aJ rfl ?_
 refine bf ?_
 refine aI (fun h=>fin 0 (by rw [eP,if_pos (show (T.mk k n s ks).name=gE from h)]) hB hI ((List.Sublist.refl _).cons _)) (fun h0=>?_)
 refine bf ?_
 refine aI (fun h=>fin 1 (by rw [eP,if_neg (show ¬ (T.mk k n s ks).name=gE from h0),if_pos (show (T.mk k n s ks).name=g9 from h)]) hB hI ((List.Sublist.refl _).cons _)) (fun h1=>?_)
 refine bf ?_
 refine aI (fun h=>?_) (fun h2=>?_)
 ·obtain ⟨x,y,rfl⟩:=jS (l:=ks) (by have:=gA (by rw [h]; decide +kernel) hbs; omega)
  have hj:eP (.mk k n s [x,y])=.uni x y:=by
   rw [eP,if_neg (show ¬ (T.mk k n s [x,y]).name=gE from h0),if_neg (show ¬ (T.mk k n s [x,y]).name=g9 from h1),if_pos (show (T.mk k n s [x,y]).name=nEq from h)]
   rfl
  rw [hj] at hB hbj
  obtain ⟨b,o,cap,c,E,fz,rfl,hSb,hR⟩:=hks.ptr (by simp)
  obtain ⟨r,hu,rfl⟩:=hB
  have hjj:okJ N (.one x y):=hbj
  refine ⟨fun D x4 mJ nh hY mY pC oZ mD ki ml rR nT w_=>Fx D 0 [nT=.pointer (some ⟨b2,3,none⟩),rR=.slice (some ⟨b,o,none⟩) [x,y].length cap,ml=.pointer (some ⟨b,o+0 * 4,none⟩),ki=.agg (aH c (o+0 * 4) 4).toArray,mD=.pointer (some ⟨b2,3,none⟩),oZ=.slice (some ⟨b,o,none⟩) [x,y].length cap,pC=.pointer (some ⟨b,o+1 * 4,none⟩),mY=.agg (aH c (o+1 * 4) 4).toArray,hY=kvU kb N kp,nh=.bool r,mJ=.int .i64 (dY r),x4=.int .i64 (dY r)]/\∃ kcx,(D 9=false->kcx=kc)/\(D 9=true->KnU S kcx st')/\Inv w X [.blk b2 (.cells #[.int .i64 k,.int .i64 n,.string s,.slice (some ⟨b,o,none⟩) [x,y].length cap] ab),.blk kb (.cells kcx ab)] S w_,⟨Fx.nil _ _,⟨kc,fun _=>rfl,aU,hI.draw⟩⟩,⟨?_,?_,?_,?_,?_,?_,?_,?_,?_,?_,?_,?_,trivial⟩,?_⟩
  all_goals (intro D bo; intros; rename_i x4 mJ nh hY mY pC oZ mD ki ml rR nT w_ hA_; have hF_:=hA_.1; obtain ⟨⟨bU,bV,bH,bR,bZ,bI,bB,ct,cF,cK,bG,bX,_⟩,⟨kcx,k0,k1,hI⟩⟩:=hA_)
  ·refine ai al ?_
   exact ⟨hF_.set 0 rfl,⟨kcx,k0,k1,hI⟩⟩
  ·obtain rfl:=bU ‹_›
   refine aA hI 0 ag rfl rfl ?_
   exact ⟨hF_.set 1 rfl,⟨kcx,k0,k1,hI⟩⟩
  ·obtain rfl:=bV ‹_›
   refine au (i:=0) af (by simp) ?_
   exact ⟨hF_.set 2 rfl,⟨kcx,k0,k1,hI⟩⟩
  ·obtain rfl:=bH ‹_›
   refine bw ac (RdT.length (hR 0 (by simp))) (fun j v hj=>by rw [hI.cellS hSb]; exact ar rfl j v hj) ?_
   exact ⟨hF_.set 3 rfl,⟨kcx,k0,k1,hI⟩⟩
  ·refine ai al ?_
   exact ⟨hF_.set 4 rfl,⟨kcx,k0,k1,hI⟩⟩
  ·obtain rfl:=bZ ‹_›
   refine aA hI 0 ag rfl rfl ?_
   exact ⟨hF_.set 5 rfl,⟨kcx,k0,k1,hI⟩⟩
  ·obtain rfl:=bI ‹_›
   refine au (i:=1) af (by simp) ?_
   exact ⟨hF_.set 6 rfl,⟨kcx,k0,k1,hI⟩⟩
  ·obtain rfl:=bB ‹_›
   refine bw ac (RdT.length (hR 1 (by simp))) (fun j v hj=>by rw [hI.cellS hSb]; exact ar rfl j v hj) ?_
   exact ⟨hF_.set 7 rfl,⟨kcx,k0,k1,hI⟩⟩
  ·exact ⟨hF_.set 8 rfl,⟨kcx,k0,k1,hI⟩⟩
  ·obtain rfl:=bR ‹_›
   obtain rfl:=ct ‹_›
   obtain rfl:=cF ‹_›
   have e0:=k0 bo
   rw [e0] at hI
   have hI:Inv w X ([.blk b2 (.cells #[.int .i64 k,.int .i64 n,.string s,.slice (some ⟨b,o,none⟩) [x,y].length cap] ab)]++[.blk kb (.cells kc ab)]) S w_:=hI
   refine Run.callE (A:=[_]) fG fB hI (gM (kp:=kp) hN hg hjj hu S _ _ kb kc (hR 0 (by simp)) (hR 1 (by simp)) hk) fun v' I' S' w_=>?_
   rintro ⟨eS,rfl,kcx,rfl,hkx⟩ _ hI
   rw [eS] at hI
   have hI:Inv w X [.blk b2 (.cells #[.int .i64 k,.int .i64 n,.string s,.slice (some ⟨b,o,none⟩) [x,y].length cap] ab),.blk kb (.cells kcx ab)] S w_:=hI
   have k0:=fun (h:aF D 9 9=false)=>(Bool.noConfusion h:kcx=kc)
   have k1:=fun (_:aF D 9 9=true)=>hkx
   exact ⟨hF_.set 9 rfl,⟨kcx,k0,k1,hI⟩⟩
  ·obtain rfl:=cK ‹_›
   refine Run.callPure dU dT hI (cW r S) fun w_ hI=>?_
   exact ⟨hF_.set 10 rfl,⟨kcx,k0,k1,hI⟩⟩
  ·obtain rfl:=bG ‹_›
   exact ⟨hF_.set 11 rfl,⟨kcx,k0,k1,hI⟩⟩
  obtain ⟨rfl,rfl,rfl,rfl,rfl,rfl,rfl,rfl,rfl,rfl,rfl,rfl,_⟩:=hF_.all
  have Fz:D 9=true:=by assumption
  clear hF_ bU bV bH bR bZ bI bB ct cF cK bG bX
  have hkx:=k1 Fz
  exact ⟨_,_,S,rfl,hI.sub (((List.Sublist.refl _).cons _)),Ext.refl _ _ _,rfl,rfl,kcx,rfl,hkx⟩
 refine bf ?_
 refine aI (fun h=>?_) (fun h3=>?_)
 ·obtain ⟨x,y,rfl⟩:=jS (l:=ks) (by have:=gA (by rw [h]; decide +kernel) hbs; omega)
  have hj:eP (.mk k n s [x,y])=.not x y:=by
   rw [eP,if_neg (show ¬ (T.mk k n s [x,y]).name=gE from h0),if_neg (show ¬ (T.mk k n s [x,y]).name=g9 from h1),if_neg (show ¬ (T.mk k n s [x,y]).name=nEq from h2),if_pos (show (T.mk k n s [x,y]).name=nNe from h)]
   rfl
  rw [hj] at hB hbj
  obtain ⟨b,o,cap,c,E,fz,rfl,hSb,hR⟩:=hks.ptr (by simp)
  obtain ⟨rfl,r,st1,hu,rfl⟩:=hB
  have hjj:okJ N (.one x y):=hbj
  have hI0:=hI
  refine ⟨fun D x4 jJ j1 jG na ij gX nL jL kz pz mt oE jM jd w_=>Fx D 0 [jd=.pointer (some ⟨b2,3,none⟩),jM=.slice (some ⟨b,o,none⟩) [x,y].length cap,oE=.pointer (some ⟨b,o+0 * 4,none⟩),mt=.agg (aH c (o+0 * 4) 4).toArray,pz=.pointer (some ⟨b2,3,none⟩),kz=.slice (some ⟨b,o,none⟩) [x,y].length cap,jL=.pointer (some ⟨b,o+1 * 4,none⟩),nL=.agg (aH c (o+1 * 4) 4).toArray,True,ij=kvU kb N kp,True,True,j1=.bool (!r),jJ=.int .i64 (dY (!r)),x4=.int .i64 (dY (!r))]/\∃ n_:Nat,n_<=3/\D 8=decide (1<=n_)/\D 10=decide (2<=n_)/\D 11=decide (3<=n_)/\(neSt w X [.blk b2 (.cells #[.int .i64 k,.int .i64 n,.string s,.slice (some ⟨b,o,none⟩) [x,y].length cap] ab),.blk kb (.cells kc ab)] S N st' r gX na jG w_ n_),⟨Fx.nil _ _,⟨0,Nat.zero_le _,rfl,rfl,rfl,hI.draw⟩⟩,⟨?_,?_,?_,?_,?_,?_,?_,?_,?_,?_,?_,?_,?_,?_,?_,trivial⟩,?_⟩
  all_goals (intro D bo; intros; rename_i x4 jJ j1 jG na ij gX nL jL kz pz mt oE jM jd w_ hA_; have hF_:=hA_.1; obtain ⟨⟨bU,bV,bH,bR,bZ,bI,bB,ct,cF,cK,bG,bX,cI,dq,cC,_⟩,⟨n_,ln_,e1_,e2_,e3_,hS⟩⟩:=hA_)
  ·refine ai al ?_
   exact ⟨hF_.set 0 rfl,⟨n_,ln_,e1_,e2_,e3_,hS⟩⟩
  ·obtain rfl:=bU ‹_›
   obtain ⟨R,hI⟩:=hS.inv; refine aA hI 0 ag rfl rfl ?_
   exact ⟨hF_.set 1 rfl,⟨n_,ln_,e1_,e2_,e3_,hS⟩⟩
  ·obtain rfl:=bV ‹_›
   refine au (i:=0) af (by simp) ?_
   exact ⟨hF_.set 2 rfl,⟨n_,ln_,e1_,e2_,e3_,hS⟩⟩
  ·obtain rfl:=bH ‹_›
   obtain ⟨R,hI⟩:=hS.inv; refine bw ac (RdT.length (hR 0 (by simp))) (fun j v hj=>by rw [hI.cellS hSb]; exact ar rfl j v hj) ?_
   exact ⟨hF_.set 3 rfl,⟨n_,ln_,e1_,e2_,e3_,hS⟩⟩
  ·refine ai al ?_
   exact ⟨hF_.set 4 rfl,⟨n_,ln_,e1_,e2_,e3_,hS⟩⟩
  ·obtain rfl:=bZ ‹_›
   obtain ⟨R,hI⟩:=hS.inv; refine aA hI 0 ag rfl rfl ?_
   exact ⟨hF_.set 5 rfl,⟨n_,ln_,e1_,e2_,e3_,hS⟩⟩
  ·obtain rfl:=bI ‹_›
   refine au (i:=1) af (by simp) ?_
   exact ⟨hF_.set 6 rfl,⟨n_,ln_,e1_,e2_,e3_,hS⟩⟩
  ·obtain rfl:=bB ‹_›
   obtain ⟨R,hI⟩:=hS.inv; refine bw ac (RdT.length (hR 1 (by simp))) (fun j v hj=>by rw [hI.cellS hSb]; exact ar rfl j v hj) ?_
   exact ⟨hF_.set 7 rfl,⟨n_,ln_,e1_,e2_,e3_,hS⟩⟩
  ·obtain rfl:n_=0:=tY e1_ bo
   refine dE hS bm fun v w_ hI=>?_
   have hS:neSt w X [.blk b2 (.cells #[.int .i64 k,.int .i64 n,.string s,.slice (some ⟨b,o,none⟩) [x,y].length cap] ab),.blk kb (.cells kc ab)] S N st' r v na jG w_ 1:=hI
   exact ⟨hF_.set 8 (by first|assumption|trivial),⟨1,by decide,rfl,(by first|exact e2_|rfl),(by first|exact e3_|rfl),hS⟩⟩
  ·exact ⟨hF_.set 9 rfl,⟨n_,ln_,e1_,e2_,e3_,hS⟩⟩
  ·have CJ:=cF ‹_›
   obtain rfl:=cK ‹_›
   obtain rfl:n_=1:=fL e1_ ‹D 8=true› e2_ bo
   have hI:Inv w X ([.blk b2 (.cells #[.int .i64 k,.int .i64 n,.string s,.slice (some ⟨b,o,none⟩) [x,y].length cap] ab),.blk kb (.cells kc ab)]++[.row gX ab 4 0 []]) S w_:=hS
   have hI:=hI.perm (M:=[.blk b2 (.cells #[.int .i64 k,.int .i64 n,.string s,.slice (some ⟨b,o,none⟩) [x,y].length cap] ab),aL gX ab 4 []]++bq [(kb,.cells kc ab)]) ((List.Perm.swap ..).cons _)
   obtain ⟨S1,hle,hins,hI,hback⟩:=Inv.lendAll _ hI
   have hkN:=hg.len
   have hrd:=hk.rd (hins _ (List.mem_singleton.2 rfl)) (by rw [hkN]; exact hkp) hkp2
   rw [hkN] at hrd
   refine ed hI 1 bm (by omega) rfl hrd (fun _ _=>RdO.length) (fun _ _=>RdO.one) (by rw [hkN]; simp; omega) (by omega) fun v w_ css2 hR2 hI=>?_
   have hI:=hback _ _ hI
   have hI:Inv w X ([.blk b2 (.cells #[.int .i64 k,.int .i64 n,.string s,.slice (some ⟨b,o,none⟩) [x,y].length cap] ab),.blk kb (.cells kc ab)]++[aL v ab 4 css2]) S w_:=hI.perm ((List.Perm.swap ..).cons _)
   obtain ⟨g,cp,cur,rfl,hc1,hc2,hkn,hI⟩:=Inv.tab hI hR2 (by omega)
   rw [hkN]
   have hS:neSt w X [.blk b2 (.cells #[.int .i64 k,.int .i64 n,.string s,.slice (some ⟨b,o,none⟩) [x,y].length cap] ab),.blk kb (.cells kc ab)] S N st' r gX (kvU g N cp) jG w_ 2:=⟨g,cp,cur,rfl,hkn,hI⟩
   exact ⟨hF_.set 10 (by first|assumption|trivial),⟨2,by decide,(by first|exact e1_|rfl),rfl,(by first|exact e3_|rfl),hS⟩⟩
  ·obtain rfl:=bR ‹_›
   obtain rfl:=ct ‹_›
   have vp:=bG ‹_›
   obtain rfl:n_=2:=fL e2_ ‹D 10=true› e3_ bo
   obtain ⟨g,cp,cur,rfl,hkn,hI⟩:=hS
   refine Run.callE fG fB hI (gM (kp:=cp) hN hg hjj hu S _ _ g cur (hR 0 (by simp)) (hR 1 (by simp)) hkn) fun v' I' S' w_=>?_
   rintro ⟨eS,rfl,kcx,rfl,hkx⟩ _ hI
   rw [eS] at hI
   have hS:neSt w X [.blk b2 (.cells #[.int .i64 k,.int .i64 n,.string s,.slice (some ⟨b,o,none⟩) [x,y].length cap] ab),.blk kb (.cells kc ab)] S N st' r gX (kvU g N cp) (.bool r) w_ 3:=⟨rfl,_,hI⟩
   exact ⟨hF_.set 11 (by first|assumption|trivial),⟨3,by decide,(by first|exact e1_|rfl),(by first|exact e2_|rfl),rfl,hS⟩⟩
  ·have PE:=bX ‹_›
   have hn3:=lx ln_ e3_ ‹D 11=true›
   have hS3:=hS
   rw [hn3] at hS3
   obtain ⟨hx41,_⟩:=hS3
   subst hx41
   refine bM ?_
   exact ⟨hF_.set 12 rfl,⟨n_,ln_,e1_,e2_,e3_,hS⟩⟩
  ·obtain rfl:=cI ‹_›
   have hn3:=lx ln_ e3_ ‹D 11=true›
   rw [hn3] at hS
   obtain ⟨hx41,R,hI⟩:=hS
   refine Run.callPure dU dT hI (cW (!r) S) fun w_ hI=>?_
   have hS:neSt w X [.blk b2 (.cells #[.int .i64 k,.int .i64 n,.string s,.slice (some ⟨b,o,none⟩) [x,y].length cap] ab),.blk kb (.cells kc ab)] S N st' r gX na jG w_ n_:=by rw [hn3]; exact ⟨hx41,R,hI⟩
   exact ⟨hF_.set 13 rfl,⟨n_,ln_,e1_,e2_,e3_,hS⟩⟩
  ·obtain rfl:=dq ‹_›
   exact ⟨hF_.set 14 rfl,⟨n_,ln_,e1_,e2_,e3_,hS⟩⟩
  obtain rfl:n_=3:=lx ln_ e3_ ‹D 11=true›
  have SZ:D 14=true:=by assumption
  clear e1_ e2_ e3_
  obtain rfl:=cC SZ
  obtain ⟨_,R,hI⟩:=hS
  exact ⟨_,_,S,rfl,hI.sub (((List.nil_sublist _).cons_cons _).cons _),Ext.refl _ _ _,rfl,rfl,kc,rfl,hk⟩
 refine bf ?_
 refine aI (fun h=>?_) (fun h4=>?_)
 ·obtain ⟨x,y,rfl⟩:=jS (l:=ks) (by have:=gA (by rw [h]; decide +kernel) hbs; omega)
  have hj:eP (.mk k n s [x,y])=.done (dY (eqT x y)):=by
   rw [eP,if_neg (show ¬ (T.mk k n s [x,y]).name=gE from h0),if_neg (show ¬ (T.mk k n s [x,y]).name=g9 from h1),if_neg (show ¬ (T.mk k n s [x,y]).name=nEq from h2),if_neg (show ¬ (T.mk k n s [x,y]).name=nNe from h3),if_pos (show (T.mk k n s [x,y]).name=lH from h)]
   rfl
  rw [hj] at hB hbj
  obtain ⟨b,o,cap,c,E,fz,rfl,hSb,hR⟩:=hks.ptr (by simp)
  refine ⟨fun D x4 rB sB pj lp ro rZ rN pm jK mh w_=>Fx D 0 [mh=.pointer (some ⟨b2,3,none⟩),jK=.slice (some ⟨b,o,none⟩) [x,y].length cap,pm=.pointer (some ⟨b,o+0 * 4,none⟩),rN=.agg (aH c (o+0 * 4) 4).toArray,rZ=.pointer (some ⟨b2,3,none⟩),ro=.slice (some ⟨b,o,none⟩) [x,y].length cap,lp=.pointer (some ⟨b,o+1 * 4,none⟩),pj=.agg (aH c (o+1 * 4) 4).toArray,sB=.bool (eqT x y),rB=.int .i64 (dY (eqT x y)),x4=.int .i64 (dY (eqT x y))]/\Inv w X [.blk b2 (.cells #[.int .i64 k,.int .i64 n,.string s,.slice (some ⟨b,o,none⟩) [x,y].length cap] ab),.blk kb (.cells kc ab)] S w_,⟨Fx.nil _ _,hI.draw⟩,⟨?_,?_,?_,?_,?_,?_,?_,?_,?_,?_,?_,trivial⟩,?_⟩
  all_goals (intro D bo; intros; rename_i x4 rB sB pj lp ro rZ rN pm jK mh w_ hA_; have hF_:=hA_.1; obtain ⟨⟨bU,bV,bH,bR,bZ,bI,bB,ct,cF,cK,bG,_⟩,hI⟩:=hA_)
  ·refine ai al ?_
   exact ⟨hF_.set 0 rfl,hI⟩
  ·obtain rfl:=bU ‹_›
   refine aA hI 0 ag rfl rfl ?_
   exact ⟨hF_.set 1 rfl,hI⟩
  ·obtain rfl:=bV ‹_›
   refine au (i:=0) af (by simp) ?_
   exact ⟨hF_.set 2 rfl,hI⟩
  ·obtain rfl:=bH ‹_›
   refine bw ac (RdT.length (hR 0 (by simp))) (fun j v hj=>by rw [hI.cellS hSb]; exact ar rfl j v hj) ?_
   exact ⟨hF_.set 3 rfl,hI⟩
  ·refine ai al ?_
   exact ⟨hF_.set 4 rfl,hI⟩
  ·obtain rfl:=bZ ‹_›
   refine aA hI 0 ag rfl rfl ?_
   exact ⟨hF_.set 5 rfl,hI⟩
  ·obtain rfl:=bI ‹_›
   refine au (i:=1) af (by simp) ?_
   exact ⟨hF_.set 6 rfl,hI⟩
  ·obtain rfl:=bB ‹_›
   refine bw ac (RdT.length (hR 1 (by simp))) (fun j v hj=>by rw [hI.cellS hSb]; exact ar rfl j v hj) ?_
   exact ⟨hF_.set 7 rfl,hI⟩
  ·obtain rfl:=bR ‹_›
   obtain rfl:=ct ‹_›
   refine Run.callPure mA my hI (nF x y S _ _ (hR 0 (by simp)) (hR 1 (by simp))) fun w_ hI=>?_
   exact ⟨hF_.set 8 rfl,hI⟩
  ·obtain rfl:=cF ‹_›
   refine Run.callPure dU dT hI (cW _ S) fun w_ hI=>?_
   exact ⟨hF_.set 9 rfl,hI⟩
  ·obtain rfl:=cK ‹_›
   exact ⟨hF_.set 10 rfl,hI⟩
  obtain ⟨rfl,rfl,rfl,rfl,rfl,rfl,rfl,rfl,rfl,rfl,rfl,_⟩:=hF_.all
  clear hF_ bU bV bH bR bZ bI bB ct cF cK bG
  exact fin _ rfl hB hI ((List.Sublist.refl _).cons _)
 refine bf ?_
 refine aI (fun h=>?_) (fun h5=>?_)
 ·obtain ⟨x,y,rfl⟩:=jS (l:=ks) (by have:=gA (by rw [h]; decide +kernel) hbs; omega)
  have hj:eP (.mk k n s [x,y])=if (cj y).2≠0 then .done (cj y).2 else .uni x (Du (cj y).1):=by
   rw [eP,if_neg (show ¬ (T.mk k n s [x,y]).name=gE from h0),if_neg (show ¬ (T.mk k n s [x,y]).name=g9 from h1),if_neg (show ¬ (T.mk k n s [x,y]).name=nEq from h2),if_neg (show ¬ (T.mk k n s [x,y]).name=nNe from h3),if_neg (show ¬ (T.mk k n s [x,y]).name=lH from h4),if_pos (show (T.mk k n s [x,y]).name=nIs from h)]
   rfl
  rw [hj] at hB hbj
  obtain ⟨b,o,cap,c,E,fz,rfl,hSb,hR⟩:=hks.ptr (by simp)
  have ny:=fg hn.2 y (by simp)
  refine ad hI 0 rfl al ag rfl ?_
  refine ch (i:=1) hI hks af ac (by simp) (fun _ _=>RdT.length) fun ds hds=>?_
  refine Run.callPure ip iD hI (jO y S ds hds ny) fun w' hI=>?_
  refine aj (v:=.int .i64 _) rfl ?_
  refine aj (v:=.int .i64 _) rfl ?_
  refine cE ?_
  refine az (fun h6=>?_) (fun h6=>?_)
  ·simp at h6
   exact fin _ (if_pos h6) hB hI ((List.Sublist.refl _).cons _)
  simp at h6
  rw [if_neg (by simp [h6])] at hB hbj
  obtain ⟨r,hu,rfl⟩:=hB
  have hjj:okJ N (.one x (Du (cj y).1)):=hbj
  have hsm:=lj y ny
  unfold Sm at hsm
  refine ⟨fun D x4 qu yB As Ad Bt AH Bw Ag Aq w_=>Fx D 0 [Aq=.pointer (some ⟨b2,3,none⟩),Ag=.slice (some ⟨b,o,none⟩) [x,y].length cap,Bw=.pointer (some ⟨b,o+0 * 4,none⟩),AH=.agg (aH c (o+0 * 4) 4).toArray,Bt=.int .i64 (cj y).1,Ad=Cx 2 (cj y).1,As=kvU kb N kp,yB=.bool r,qu=.int .i64 (dY r),x4=.int .i64 (dY r)]/\∃ kcx,(D 7=false->kcx=kc)/\(D 7=true->KnU S kcx st')/\Inv w X [.blk b2 (.cells #[.int .i64 k,.int .i64 n,.string s,.slice (some ⟨b,o,none⟩) [x,y].length cap] ab),.blk kb (.cells kcx ab)] S w_,⟨Fx.nil _ _,⟨kc,fun _=>rfl,aU,hI.draw⟩⟩,⟨?_,?_,?_,?_,?_,?_,?_,?_,?_,?_,trivial⟩,?_⟩
  all_goals (intro D bo; intros; rename_i x4 qu yB As Ad Bt AH Bw Ag Aq w_ hA_; have hF_:=hA_.1; obtain ⟨⟨bU,bV,bH,bR,bZ,bI,bB,ct,cF,cK,_⟩,⟨kcx,k0,k1,hI⟩⟩:=hA_)
  ·refine ai al ?_
   exact ⟨hF_.set 0 rfl,⟨kcx,k0,k1,hI⟩⟩
  ·obtain rfl:=bU ‹_›
   refine aA hI 0 ag rfl rfl ?_
   exact ⟨hF_.set 1 rfl,⟨kcx,k0,k1,hI⟩⟩
  ·obtain rfl:=bV ‹_›
   refine au (i:=0) af (by simp) ?_
   exact ⟨hF_.set 2 rfl,⟨kcx,k0,k1,hI⟩⟩
  ·obtain rfl:=bH ‹_›
   refine bw ac (RdT.length (hR 0 (by simp))) (fun j v hj=>by rw [hI.cellS hSb]; exact ar rfl j v hj) ?_
   exact ⟨hF_.set 3 rfl,⟨kcx,k0,k1,hI⟩⟩
  ·exact ⟨hF_.set 4 rfl,⟨kcx,k0,k1,hI⟩⟩
  ·obtain rfl:=bZ ‹_›
   refine Run.callPure nV ou hI (jj _ S) fun w_ hI=>?_
   exact ⟨hF_.set 5 rfl,⟨kcx,k0,k1,hI⟩⟩
  ·exact ⟨hF_.set 6 rfl,⟨kcx,k0,k1,hI⟩⟩
  ·obtain rfl:=bR ‹_›
   obtain rfl:=bI ‹_›
   obtain rfl:=bB ‹_›
   have e0:=k0 bo
   rw [e0] at hI
   have hI:Inv w X ([.blk b2 (.cells #[.int .i64 k,.int .i64 n,.string s,.slice (some ⟨b,o,none⟩) [x,y].length cap] ab)]++[.blk kb (.cells kc ab)]) S w_:=hI
   refine Run.callE (A:=[_]) fG fB hI (gM (kp:=kp) hN hg hjj hu S _ _ kb kc (hR 0 (by simp)) (np (by simp [inI]) (by simp only [inI]; omega)) hk) fun v' I' S' w_=>?_
   rintro ⟨eS,rfl,kcx,rfl,hkx⟩ _ hI
   rw [eS] at hI
   have hI:Inv w X [.blk b2 (.cells #[.int .i64 k,.int .i64 n,.string s,.slice (some ⟨b,o,none⟩) [x,y].length cap] ab),.blk kb (.cells kcx ab)] S w_:=hI
   have k0:=fun (h:aF D 7 7=false)=>(Bool.noConfusion h:kcx=kc)
   have k1:=fun (_:aF D 7 7=true)=>hkx
   exact ⟨hF_.set 7 rfl,⟨kcx,k0,k1,hI⟩⟩
  ·obtain rfl:=ct ‹_›
   refine Run.callPure dU dT hI (cW r S) fun w_ hI=>?_
   exact ⟨hF_.set 8 rfl,⟨kcx,k0,k1,hI⟩⟩
  ·obtain rfl:=cF ‹_›
   exact ⟨hF_.set 9 rfl,⟨kcx,k0,k1,hI⟩⟩
  obtain ⟨rfl,rfl,rfl,rfl,rfl,rfl,rfl,rfl,rfl,rfl,_⟩:=hF_.all
  have vG:D 7=true:=by assumption
  clear hF_ bU bV bH bR bZ bI bB ct cF cK
  have hkx:=k1 vG
  exact ⟨_,_,S,rfl,hI.sub (((List.Sublist.refl _).cons _)),Ext.refl _ _ _,rfl,rfl,kcx,rfl,hkx⟩
 refine bf ?_
 refine aI (fun h=>?_) (fun h6=>?_)
 ·obtain ⟨x,y,z,rfl⟩:=Jo (l:=ks) (by have:=Mo (h ▸ hbs); omega)
  have hj:eP (.mk k n s [x,y,z])=qt x y z:=by
   rw [eP,if_neg (show ¬ (T.mk k n s [x,y,z]).name=gE from h0),if_neg (show ¬ (T.mk k n s [x,y,z]).name=g9 from h1),if_neg (show ¬ (T.mk k n s [x,y,z]).name=nEq from h2),if_neg (show ¬ (T.mk k n s [x,y,z]).name=nNe from h3),if_neg (show ¬ (T.mk k n s [x,y,z]).name=lH from h4),if_neg (show ¬ (T.mk k n s [x,y,z]).name=nIs from h5),if_pos (show (T.mk k n s [x,y,z]).name=zI from h)]
   rfl
  rw [hj] at hB hbj
  refine aq hI 0 ac rfl rfl ?_
  refine Run.call0 JN Lx hI (DQ hgl) fun v1 I' S' w'=>?_
  rintro ⟨rfl,eS,ds,cd,rfl,hdl,hd1,hcase⟩ _ hI
  rw [eS] at hI
  have hI:=hI
  refine aj (v:=.agg ds.toArray) rfl ?_
  refine aj (v:=.int .i64 cd) rfl ?_
  refine aG hI aP fun b7 w' hI=>?_
  refine ao hI 2 rfl ac (by simpa using hdl) rfl (by simpa using hd1) fun w' hI=>?_
  obtain ⟨b,o,cap,c,E,fz,rfl,hSb,hR⟩:=hks.ptr (by simp)
  have hI:Inv w X [.blk b2 (.cells #[.int .i64 k,.int .i64 n,.string s,.slice (some ⟨b,o,none⟩) [x,y,z].length cap] ab),.blk kb (.cells kc ab),.blk b7 (.cells ds.toArray ab)] S w':=hI
  refine cE ?_
  obtain ⟨j,hja⟩:∃ j,qt x y z=j:=⟨_,rfl⟩
  rw [hja] at hcase hB hbj
  match j,hja,hcase,hB,hbj with
  | .done c2,_,hcase,hB,_=>
   obtain ⟨rfl,hne⟩:=hcase
   rw [decide_eq_false hne]
   refine az (fun _=>?_) (fun hb=>by cases hb)
   exact fin _ rfl hB hI (((List.nil_sublist _).cons_cons _).cons _)
  | .not _ _,_,hcase,_,_=>exact hcase.elim
  | .uni u t,hja,hcase,hB,hbj=>
   obtain ⟨rfl,hdt⟩:=hcase
   refine az (fun hb=>by cases hb) (fun _=>?_)
   obtain rfl:u=z:=by
    unfold qt at hja
    split at hja
    ·cases hja
    split at hja
    ·cases hja
    split at hja
    ·cases hja
    ·rw [BJ.uni.injEq] at hja
     exact hja.1.symm
   obtain ⟨r,hu,rfl⟩:=hB
   have hjj:okJ N (.one u t):=hbj
   refine ⟨fun D x4 I0 DU CX Do Ca CG tJ sk w_=>Fx D 0 [sk=.pointer (some ⟨b2,3,none⟩),tJ=.slice (some ⟨b,o,none⟩) [x,y,u].length cap,CG=.pointer (some ⟨b,o+2 * 4,none⟩),Ca=.agg (aH c (o+2 * 4) 4).toArray,Do=.agg ds.toArray,CX=kvU kb N kp,DU=.bool r,I0=.int .i64 (dY r),x4=.int .i64 (dY r)]/\∃ kcx,(D 6=false->kcx=kc)/\(D 6=true->KnU S kcx st')/\Inv w X [.blk b2 (.cells #[.int .i64 k,.int .i64 n,.string s,.slice (some ⟨b,o,none⟩) [x,y,u].length cap] ab),.blk kb (.cells kcx ab),.blk b7 (.cells ds.toArray ab)] S w_,⟨Fx.nil _ _,⟨kc,fun _=>rfl,aU,hI.draw⟩⟩,⟨?_,?_,?_,?_,?_,?_,?_,?_,?_,trivial⟩,?_⟩
   all_goals (intro D bo; intros; rename_i x4 I0 DU CX Do Ca CG tJ sk w_ hA_; have hF_:=hA_.1; obtain ⟨⟨bU,bV,bH,bR,bZ,bI,bB,ct,cF,_⟩,⟨kcx,k0,k1,hI⟩⟩:=hA_)
   ·refine ai al ?_
    exact ⟨hF_.set 0 rfl,⟨kcx,k0,k1,hI⟩⟩
   ·obtain rfl:=bU ‹_›
    refine aA hI 0 ag rfl rfl ?_
    exact ⟨hF_.set 1 rfl,⟨kcx,k0,k1,hI⟩⟩
   ·obtain rfl:=bV ‹_›
    refine au (i:=2) af (by simp) ?_
    exact ⟨hF_.set 2 rfl,⟨kcx,k0,k1,hI⟩⟩
   ·obtain rfl:=bH ‹_›
    refine bw ac (RdT.length (hR 2 (by simp))) (fun j v hj=>by rw [hI.cellS hSb]; exact ar rfl j v hj) ?_
    exact ⟨hF_.set 3 rfl,⟨kcx,k0,k1,hI⟩⟩
   ·refine aq hI 2 ac rfl (by simpa using hdl) ?_
    exact ⟨hF_.set 4 rfl,⟨kcx,k0,k1,hI⟩⟩
   ·exact ⟨hF_.set 5 rfl,⟨kcx,k0,k1,hI⟩⟩
   ·obtain rfl:=bR ‹_›
    obtain rfl:=bZ ‹_›
    obtain rfl:=bI ‹_›
    have e0:=k0 bo
    rw [e0] at hI
    have hI:=hI.perm (M:=[.blk b2 (.cells #[.int .i64 k,.int .i64 n,.string s,.slice (some ⟨b,o,none⟩) [x,y,u].length cap] ab),.blk b7 (.cells ds.toArray ab)]++[.blk kb (.cells kc ab)]) ((List.Perm.swap ..).cons _)
    refine Run.callE (A:=[_,_]) fG fB hI (gM (kp:=kp) hN hg hjj hu S _ _ kb kc (hR 2 (by simp)) hdt hk) fun v' I' S' w_=>?_
    rintro ⟨eS,rfl,kcx,rfl,hkx⟩ _ hI
    rw [eS] at hI
    have hI:Inv w X [.blk b2 (.cells #[.int .i64 k,.int .i64 n,.string s,.slice (some ⟨b,o,none⟩) [x,y,u].length cap] ab),.blk kb (.cells kcx ab),.blk b7 (.cells ds.toArray ab)] S w_:=hI.perm ((List.Perm.swap ..).cons _)
    have k0:=fun (h:aF D 6 6=false)=>(Bool.noConfusion h:kcx=kc)
    have k1:=fun (_:aF D 6 6=true)=>hkx
    exact ⟨hF_.set 6 rfl,⟨kcx,k0,k1,hI⟩⟩
   ·obtain rfl:=bB ‹_›
    refine Run.callPure dU dT hI (cW r S) fun w_ hI=>?_
    exact ⟨hF_.set 7 rfl,⟨kcx,k0,k1,hI⟩⟩
   ·obtain rfl:=ct ‹_›
    exact ⟨hF_.set 8 rfl,⟨kcx,k0,k1,hI⟩⟩
   obtain ⟨rfl,rfl,rfl,rfl,rfl,rfl,rfl,rfl,rfl,_⟩:=hF_.all
   have QF:D 6=true:=by assumption
   clear hF_ bU bV bH bR bZ bI bB ct cF
   have hkx:=k1 QF
   exact ⟨_,_,S,rfl,hI.sub (((List.nil_sublist _).cons_cons _).cons _),Ext.refl _ _ _,rfl,rfl,kcx,rfl,hkx⟩
 have hrest:eP (.mk k n s ks)=if cJ s dL=true then .done (Kg s (dw ks)) else .done (dY (jY s (kd (.mk k n s ks) 0))):=by
  rw [eP,if_neg (show ¬ (T.mk k n s ks).name=gE from h0),if_neg (show ¬ (T.mk k n s ks).name=g9 from h1),if_neg (show ¬ (T.mk k n s ks).name=nEq from h2),if_neg (show ¬ (T.mk k n s ks).name=nNe from h3),if_neg (show ¬ (T.mk k n s ks).name=lH from h4),if_neg (show ¬ (T.mk k n s ks).name=nIs from h5),if_neg (show ¬ (T.mk k n s ks).name=zI from h6)]
  rfl
 rw [hrest] at hB
 refine ad hI 0 rfl aM aJ rfl ?_
 refine Run.callPure zV zW hI (td s S) fun w' hI=>?_
 refine az (fun hc=>?_) (fun hc=>?_)
 ·rw [if_pos hc] at hB
  have hl:ks.length=2:=by have:=gA (Mq hc) hbs; omega
  refine aq hI 0 ac rfl rfl ?_
  refine Run.callPure AZ Ba hI (uR hgl hl hn.2) fun w' hI=>?_
  exact fin _ rfl hB hI ((List.Sublist.refl _).cons _)
 rw [hc,if_neg (by decide)] at hB
 obtain ⟨x,rfl⟩:=Bi (l:=ks) (by
  rcases nj hbs h0 h1 h2 h3 h4 h5 hc with ⟨_,h⟩|⟨h,_⟩
  ·omega
  ·exact absurd h h6)
 refine aq hI 0 ac rfl rfl ?_
 refine Run.callPure Jx HM hI (BN hgl) fun w' hI=>?_
 exact fin _ rfl hB hI ((List.Sublist.refl _).cons _)
end
end
end Go.Proofs.YtfcbhfjomgopbaaGreat
