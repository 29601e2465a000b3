/- Arithmetic and comparisons of numbers, on both sides. -/
import Derived.Test.YtgllldjiaglkcaaGreatDoorZMp3
import Derived.Test.YtgllldjiaglkcaaGreatDoorZMp2
import Derived.Test.YtgllldjiaglkcaaGreatDoorZMp5
import Derived.Test.YtgllldjiaglkcaaGreatDoorZMp9
import Derived.Test.YtgllldjiaglkcaaGreatDoorZMp10
import Derived.Test.YtgllldjiaglkcaaGreatDoorZMp4
import Derived.Test.YtgllldjiaglkcaaGreatDoorZMp6
namespace Go.Proofs.YtgllldjiaglkcaaGreatDoor
section
open Go Go.RowKit
def WS (a b:Int):Int:=if a.tmod b≠0/\(decide (a.tmod b<0) != decide (b<0))=true then a.tmod b+b else a.tmod b
def oQ (n:Int):Int × Int:=if n < -999 ∨ 999<n then (0,5) else (n,0)
def opA (s:ByteArray) (a b:Int):Int × Int:=
 if s=⟨#[43]⟩ then oQ (a+b)
 else if s=⟨#[45]⟩ then oQ (a - b)
 else if s=⟨#[42]⟩ then oQ (a * b)
 else if b=0 then (0,4)
 else if s=⟨#[109,111,100]⟩ then (WS a b,0)
 else (a.tdiv b,0)
def qI (s:ByteArray):List (Int × Int)->Int × Int
 | [a,b]=>if cJ s=1 ∨ cJ s=2 then (if a.2≠0 then (0,a.2) else if b.2≠0 then (0,b.2) else opA s a.1 b.1) else (0,3)
 | _=>(0,3)
mutual
def dM:T->Int × Int
 | .mk k n s ks=>if k=1 then (0,2) else if k=2 then (n,0) else qI s (gG ks)
def gG:List T->List (Int × Int)
 | []=>[]
 | t::ts=>dM t::gG ts
end
theorem Hx:∀ ts:List T,gG ts=ts.map dM
 | []=>rfl
 | t::ts=>by rw [gG,Hx ts,AE]
mutual
def okN:T->Prop
 | .mk k n _ ks=>(k=2->-999<=n/\n<=999)/\EC ks
def EC:List T->Prop
 | []=>True
 | t::ts=>okN t/\EC ts
end
theorem kU:∀ {ts:List T},EC ts->∀ t∈ts,okN t
 | t::ts,h,x,hx=>by
  rw [EC] at h
  rcases bN.1 hx with rfl|hx
  ·exact h.1
  ·exact kU h.2 x hx
theorem okN.kids {t:T} (h:okN t):EC t.kids:=by cases t; rw [okN] at h; exact h.2
def Sm (n:Int):Prop:=-999<=n/\n<=999
theorem BG (n:Int):Sm (oQ n).1:=by
 unfold oQ Sm
 split
 ·simp
 ·simp only []; omega
theorem Ut {a b:Int} (ha:Sm a):Sm (a.tdiv b):=by
 unfold Sm at *
 have h1:(a.tdiv b).natAbs<=a.natAbs:=by
  rw [Int.natAbs_tdiv]
  exact Nat.div_le_self _ _
 omega
theorem Uu {a b:Int} (_:Sm b) (h0:b≠0):(a.tmod b).natAbs<b.natAbs:=by
 rw [Int.natAbs_tmod]
 exact un _ (by omega)
theorem TS {a b:Int} (hb:Sm b) (h0:b≠0):Sm (WS a b):=by
 have h:=Uu (a:=a) hb h0
 unfold WS
 split
 ·rename_i h1
  obtain ⟨h1,h2⟩:=h1
  unfold Sm at *
  by_cases h3:a.tmod b<0
  ·by_cases h4:b<0
   ·simp [h3,h4] at h2
   ·omega
  ·by_cases h4:b<0
   ·omega
   ·simp [h3,h4] at h2
 ·unfold Sm at *; omega
theorem ZR {s:ByteArray} {a b:Int} (ha:Sm a) (hb:Sm b):Sm (opA s a b).1:=by
 unfold opA
 split
 ·exact BG _
 split
 ·exact BG _
 split
 ·exact BG _
 split
 ·simp [Sm]
 split
 ·rename_i h0 _; exact TS hb h0
 ·exact Ut ha
theorem yW:∀ t:T,okN t->Sm (dM t).1:=by
 refine T.ind fun k n s ks ih h=>?_
 rw [okN] at h
 rw [dM]
 split
 ·simp [Sm]
 split
 ·rename_i hk; exact h.1 hk
 rw [Hx]
 match ks,ih,h.2 with
 | [],_,_=>simp [qI,Sm]
 | [x],_,_=>simp [qI,Sm]
 | [x,y],ih,h2=>
  have hx:=ih x (by simp) (kU h2 x (by simp))
  have hy:=ih y (by simp) (kU h2 y (by simp))
  simp only [AE,List.map_nil,qI]
  split
  ·split
   ·simp [Sm]
   ·split
    ·simp [Sm]
    ·exact ZR hx hy
  ·simp [Sm]
 | _::_::_::_,_,_=>simp [qI,Sm]
theorem GK {x b:Int} (h:x.natAbs<b.natAbs):x.tmod b=x:=by
 have h1:=Int.tmod_add_mul_tdiv x b
 have h2:(x.tdiv b).natAbs=0:=by rw [Int.natAbs_tdiv]; exact Nat.div_eq_of_lt h
 have h3:x.tdiv b=0:=by omega
 rw [h3] at h1
 simpa using h1
theorem Qg {m b:Int} (h0:0<=m) (h:m<b):(m+b).tmod b=m:=by
 rw [Int.tmod_eq_emod_of_nonneg (by omega),Int.add_emod_right,Int.emod_eq_of_lt h0 h]
theorem Vr {m b:Int} (h0:m<=0) (h:b<m):(m+b).tmod b=m:=by
 have h1:=Qg (m:=-m) (b:=-b) (by omega) (by omega)
 rw [Int.tmod_neg,show -m+-b=-(m+b) by omega,Int.neg_tmod] at h1
 omega
theorem YX {a b:Int} (h0:b≠0):(a.tmod b+b).tmod b=WS a b:=by
 have hlt:(a.tmod b).natAbs<b.natAbs:=by
  rw [Int.natAbs_tmod]
  exact un _ (by omega)
 obtain ⟨m,hm⟩:∃ m,m=a.tmod b:=⟨_,rfl⟩
 unfold WS
 rw [<- hm] at hlt ⊢
 by_cases h3:m<0
 ·by_cases h4:b<0
  ·rw [ah (by simp [h3,h4]),Vr (by omega) (by omega)]
  ·rw [ai (by simp [h3,h4]; omega),GK (by omega)]
 ·by_cases h4:b<0
  ·by_cases h5:m=0
   ·subst h5; simp
   ·rw [ai (by simp [h3,h4,h5]),GK (by omega)]
  ·rw [ah (by simp [h3,h4]),Qg (by omega) (by omega)]
def s7 (s:ByteArray) (a b:Int):Bool:=
 if s=⟨#[60]⟩ then decide (a<b)
 else if s=⟨#[62]⟩ then decide (b<a)
 else if s=⟨#[61,60]⟩ then decide (a<=b)
 else if s=⟨#[62,61]⟩ then decide (b<=a)
 else decide (a=b)
def ji (b:Bool):Int:=if b=true then 0 else 1
def Zd (s:ByteArray):List (Int × Int)->Int
 | [a,b]=>if a.2≠0 then a.2 else if b.2≠0 then b.2 else ji (s7 s a.1 b.1)
 | _=>0
def hZ:List ByteArray:=[⟨#[60]⟩,⟨#[62]⟩,⟨#[61,60]⟩,⟨#[62,61]⟩,⟨#[61,58,61]⟩]
abbrev ab5 (p:Int × Int):Value:=.tuple #[.int .i64 p.1,.int .i64 p.2]
theorem Oc (s:ByteArray) (l:List ByteArray):(l.any fun x=>decide (x=s))=df s l:=by
 rw [df]
 congr 1
 funext x
 rw [fg]
 exact eq_comm
theorem Cn {l:List T} (h:l.length=2):∃ x y,l=[x,y]:=by
 match l,h with
 | [x,y],_=>exact ⟨x,y,rfl⟩
theorem U9 (n:Int):oQ n=if (decide (-999<=n) && decide (n<=999))=true then (n,0) else (0,5):=by
 unfold oQ
 by_cases h:n < -999 ∨ 999<n
 ·rw [ai h,ah (by simp; omega)]
 ·rw [ah h,ai (by simp; omega)]
theorem Wr {n:Int} (h:Sm n):oQ n=(n,0):=by
 unfold oQ Sm at *
 rw [ah (by omega)]
section
attribute [local irreducible] Run CondV az aO
theorem ZH {a b:Int} (ha:Sm a) (hb:Sm b):-998001<=a * b/\a * b<=998001:=by
 unfold Sm at *
 have h1:(a * b).natAbs=a.natAbs * b.natAbs:=Int.natAbs_mul a b
 have h2:a.natAbs * b.natAbs<=999 * 999:=Ca (by omega) (by omega)
 omega
theorem dR (b:Bool) (S:ae):Pure Tryz.prog n_i_holds [.bool b] S (.int .i64 (ji b)):=by
 intro w hI
 refine sh_i_holds.2 ?_
 dsimp only[sh_i_holds,aM]
 refine aw (fun h=>done hI ?_) (fun h=>done hI ?_) <;> rw [h] <;> rfl
theorem oW:∀ (t:T) (S:ae) (cs:List Value),RdT S cs t->okN t->Pure Tryz.prog Va [.agg cs.toArray] S (ab5 (dM t)):=by
 refine T.ind fun k n s ks ih S0 cs h hn=>?_
 intro w hI
 obtain ⟨kv,rfl,_,_,_,hks⟩:=RdT.iff.1 h
 rw [okN] at hn
 simp only [T.name,T.kids,T.kind,T.n] at hks ⊢
 refine HS.2 ?_
 dsimp only[HS,aM]
 refine bq hI fun b1 w' hI=>?_
 refine af hI 0 rfl aR aG rfl ?_
 refine bl ?_
 refine aL (fun h2=>?_) (fun h2=>?_)
 ·refine af (u:=.int .i64 n) hI 0 rfl bf aG rfl ?_
  exact done hI (by rw [dM,ah (by omega),ai h2])
 refine af hI 0 rfl aR aG rfl ?_
 refine bl ?_
 refine aL (fun h1=>done hI (by rw [dM,ai h1])) (fun h1=>?_)
 have e0:dM (.mk k n s ks)=qI s (gG ks):=by rw [dM,ah h1,ah h2]
 rw [e0]
 refine ⟨fun t w'=>t=.bool (!(decide (ks.length=2) && df s (yO++oD)))/\∃ S,Sle S0 S/\Inv w [] [.blk b1 (.cells #[.int .i64 k,.int .i64 n,.string s,kv] ab)] S w',?_,?_⟩
 ·refine af hI 0 rfl ao aj rfl ?_
  refine aF hks ag ?_
  refine ef ?_
  have el:decide ((ks.length:Int)=2)=decide (ks.length=2):=by rw [fg]; omega
  rw [el]
  cases hl:decide (ks.length=2)
  ·refine rpG ?_
   exact ⟨rfl,S0,Sle.refl _,hI⟩
  refine rpG ?_
  refine um hI (by kernel_rfl) rfl (by omega) fun v S1 w' hE1 hv hI=>?_
  refine af hI 0 rfl bb aU rfl ?_
  refine Run.callPure gW gZ hI (gH s hv) fun w' hI=>?_
  refine bQ ?_
  refine rpG ?_
  refine ⟨?_,S1,hE1.1,hI⟩
  rw [Oc]
  rfl
 intro q _ _ _ _ _ _ _ _ _ _ _ w'
 rintro ⟨rfl,S,hle,hI⟩
 have hks:=hks.monoT hle
 have hlev:df s (yO++oD)=true↔cJ s=1 ∨ cJ s=2:=by
  have e1:df s (yO++oD)=(df s yO || df s oD):=by rw [df,List.any_append]; rfl
  rw [e1]
  unfold cJ
  have hex:df s sn=true->df s yO=false/\df s oD=false:=by
   intro hc
   rw [df,Gw] at hc
   obtain ⟨x,hx,hd⟩:=hc
   have hd:=of_decide_eq_true hd
   subst hd
   simp only [sn,bN,jd,je] at hx
   rcases hx with rfl|rfl|rfl|rfl|rfl|rfl|rfl|rfl|rfl <;> exact ⟨by decide +kernel,by decide +kernel⟩
  cases hc:df s sn
  ·cases hs:df s yO <;> cases hp:df s oD <;> simp
  ·simp [hex hc]
 refine aw (fun hc=>fT hI hle ?_) (fun hc=>?_)
 ·match ks,hc with
  | [],_|[_],_|_::_::_::_,_=>rfl
  | [x,y],hc=>
   have hc:df s (yO++oD)=false:=by simpa using hc
   rw [gG,gG,gG,qI,ah (by rw [<- hlev,hc]; decide)]
 simp only [rK,bu,bk] at hc
 obtain ⟨hl,hv⟩:=hc
 rw [hlev] at hv
 obtain ⟨x,y,rfl⟩:=Cn hl
 have e1:qI s (gG [x,y])=if (dM x).2≠0 then (0,(dM x).2) else if (dM y).2≠0 then (0,(dM y).2) else opA s (dM x).1 (dM y).1:=by
  rw [gG,gG,gG,qI,ai hv]
 rw [e1]
 have nx:=kU hn.2 x (by simp)
 have ny:=kU hn.2 y (by simp)
 refine af hI 0 rfl ao aj rfl ?_
 refine cL (i:=0) hI hks ag ad (by simp) (fun _ _=>RdT.length) fun cs' hcs'=>?_
 refine Run.callPure mN mF hI (ih x (by simp) S cs' hcs' nx) fun w' hI=>?_
 refine ar (v:=.int .i64 _) rfl ?_
 refine ar (v:=.int .i64 _) rfl ?_
 refine ef ?_
 refine aw (fun h5=>fT hI hle ?_) (fun h5=>?_)
 ·simp at h5
  rw [ai h5]
 simp at h5
 rw [ah (by simp [h5])]
 refine af hI 0 rfl ao aj rfl ?_
 refine cL (i:=1) hI hks ag ad (by simp) (fun _ _=>RdT.length) fun cs' hcs'=>?_
 refine Run.callPure mN mF hI (ih y (by simp) S cs' hcs' ny) fun w' hI=>?_
 refine ar (v:=.int .i64 _) rfl ?_
 refine ar (v:=.int .i64 _) rfl ?_
 refine ef ?_
 refine aw (fun h6=>fT hI hle ?_) (fun h6=>?_)
 ·simp at h6
  rw [ai h6]
 simp at h6
 rw [ah (by simp [h6])]
 have ax:=yW x nx
 have ay:=yW y ny
 obtain ⟨a,ha⟩:∃ a,a=(dM x).1:=⟨_,rfl⟩
 obtain ⟨b,hb⟩:∃ b,b=(dM y).1:=⟨_,rfl⟩
 rw [<- ha] at ax ⊢
 rw [<- hb] at ay ⊢
 have hmul:=ZH ax ay
 have ax':=ax
 have ay':=ay
 unfold Sm at ax ay
 refine ⟨fun q w'=>∃ m:Int,q=.int .i64 m/\opA s a b=oQ m/\Inv w [] [.blk b1 (.cells #[.int .i64 k,.int .i64 n,.string s,kv] ab)] S w',?_,?_⟩
 ·refine af hI 0 rfl bb aU rfl ?_
  refine bS ?_
  refine aL (fun h=>?_) (fun h1=>?_)
  ·exact bp (by omega) ⟨_,rfl,by rw [opA,ai h],hI⟩
  refine bS ?_
  refine aL (fun h=>?_) (fun h2=>?_)
  ·exact mx (by omega) ⟨_,rfl,by rw [opA,ah h1,ai h],hI⟩
  refine bS ?_
  refine aL (fun h=>?_) (fun h3=>?_)
  ·exact H2 (by omega) ⟨_,rfl,by rw [opA,ah h1,ah h2,ai h],hI⟩
  refine bl ?_
  refine aL (fun h=>?_) (fun h4=>?_)
  ·exact fT hI hle (by rw [opA,ah h1,ah h2,ah h3,ai h])
  have hd:=Ut (b:=b) ax'
  have hd':=hd
  unfold Sm at hd
  refine abJ h4 (by omega) ?_
  refine af hI 0 rfl bb aU rfl ?_
  refine bS ?_
  refine aL (fun h=>?_) (fun h5=>?_)
  ·have hm:=Uu (a:=a) ay' h4
   refine VW h4 ?_
   refine bp (by omega) ?_
   refine VW h4 ?_
   refine ⟨_,rfl,?_,hI⟩
   rw [opA,ah h1,ah h2,ah h3,ah h4,ai h,YX h4,Wr (TS ay' h4)]
  ·refine ⟨_,rfl,?_,hI⟩
   rw [opA,ah h1,ah h2,ah h3,ah h4,ah h5,Wr hd']
 intro _ _ _ _ _ _ _ _ _ _ _ _ _ _ _ _ _ _ _ _ _ _ _ _ _ _ _ q _ _ _ _ _ _ _ w'
 rintro ⟨m,rfl,hop,hI⟩
 refine Run.callPure fu fD hI (eR _ _ _ S) fun w' hI=>?_
 refine bQ ?_
 rw [hop,U9]
 refine aw (fun hc=>fT hI hle ?_) (fun hc=>fT hI hle ?_)
 ·rw [jj] at hc
  rw [hc]; rfl
 ·rw [rK] at hc
  rw [hc]; rfl
def YP (t:T):Bool:=decide (t.kind=3) && (decide (t.kids.length=2) && df t.name hZ)
theorem Cu {t:T} {S0:ae} {cs:List Value} (h:RdT S0 cs t):Pure Tryz.prog Mj [.agg cs.toArray] S0 (.bool (YP t)):=by
 intro w hI
 obtain ⟨kv,rfl,_,_,_,hks⟩:=RdT.iff.1 h
 refine v7.2 ?_
 dsimp only[v7,aM]
 unfold YP
 refine bq hI fun b1 w' hI=>?_
 refine af hI 0 rfl aR aG rfl ?_
 refine bl ?_
 have el:decide ((t.kids.length:Int)=2)=decide (t.kids.length=2):=by rw [fg]; omega
 cases hk:decide (t.kind=3)
 ·refine rpG ?_
  exact done hI rfl
 refine rpG ?_
 refine af hI 0 rfl ao aj rfl ?_
 refine aF hks ag ?_
 refine bl ?_
 rw [el]
 refine rpG ?_
 cases hl:decide (t.kids.length=2)
 ·refine rpG ?_
  exact done hI rfl
 refine rpG ?_
 refine um hI (by kernel_rfl) rfl (by omega) fun v S1 w' hE1 hv hI=>?_
 refine af hI 0 rfl bb aU rfl ?_
 refine Run.callPure gW gZ hI (gH t.name hv) fun w' hI=>?_
 refine rpG ?_
 refine fT hI hE1.1 ?_
 rw [Oc]
 rfl
theorem BA {s:ByteArray} {k n:Int} {ks:List T} {S:ae} {cs:List Value} (h:RdT S cs (.mk k n s ks)) (hl:ks.length=2) (hn:EC ks):Pure Tryz.prog LB [.agg cs.toArray] S (.int .i64 (Zd s (gG ks))):=by
 intro w hI
 obtain ⟨kv,rfl,_,_,_,hks⟩:=RdT.iff.1 h
 simp only [T.name,T.kids,T.kind,T.n] at hks ⊢
 obtain ⟨x,y,rfl⟩:=Cn hl
 have nx:=kU hn x (by simp)
 have ny:=kU hn y (by simp)
 rw [gG,gG,gG,Zd]
 refine wF.2 ?_
 dsimp only[wF,aM]
 refine bq hI fun b1 w' hI=>?_
 refine af hI 0 rfl ao aj rfl ?_
 refine cL (i:=0) hI hks ag ad (by simp) (fun _ _=>RdT.length) fun cs' hcs'=>?_
 refine Run.callPure mN mF hI (oW x S cs' hcs' nx) fun w' hI=>?_
 refine ar (v:=.int .i64 _) rfl ?_
 refine ar (v:=.int .i64 _) rfl ?_
 refine ef ?_
 refine aw (fun h5=>done hI ?_) (fun h5=>?_)
 ·simp at h5
  rw [ai h5]
 simp at h5
 rw [ah (by simp [h5])]
 refine af hI 0 rfl ao aj rfl ?_
 refine cL (i:=1) hI hks ag ad (by simp) (fun _ _=>RdT.length) fun cs' hcs'=>?_
 refine Run.callPure mN mF hI (oW y S cs' hcs' ny) fun w' hI=>?_
 refine ar (v:=.int .i64 _) rfl ?_
 refine ar (v:=.int .i64 _) rfl ?_
 refine ef ?_
 refine aw (fun h6=>done hI ?_) (fun h6=>?_)
 ·simp at h6
  rw [ai h6]
 simp at h6
 rw [ah (by simp [h6])]
 refine af hI 0 rfl bb aU rfl ?_
 have hcode:∀ (b:Bool) {w':World} {L:List Item},Inv w [] L S w'->s7 s (dM x).1 (dM y).1=b->Run Tryz.prog (eM (.func (.func n_i_holds) #[] #[]) [.bool b]) w' fun v w''=>Ending.returned v=.returned (.int .i64 (ji (s7 s (dM x).1 (dM y).1)))/\Inv w [] [] S w'':=fun b w' L hI e=>
  Run.callPure fn_i_holds nm_i_holds hI (dR b S) fun w' hI=>done hI (by rw [e])
 refine bS ?_
 refine aL (fun h=>bH (hcode _ hI (by rw [s7,ai h]))) (fun h1=>?_)
 refine bS ?_
 refine aL (fun h=>dA (hcode _ hI (by rw [s7,ah h1,ai h]))) (fun h2=>?_)
 refine bS ?_
 refine aL (fun h=>gy (hcode _ hI (by rw [s7,ah h1,ah h2,ai h]))) (fun h3=>?_)
 refine bS ?_
 refine aL (fun h=>jS (hcode _ hI (by rw [s7,ah h1,ah h2,ah h3,ai h]))) (fun h4=>?_)
 exact bl (hcode _ hI (by rw [s7,ah h1,ah h2,ah h3,ah h4]))
end
end
section
open Go Go.RowKit
def zT:T:=.mk 0 0 ⟨#[]⟩ []
def kd (g:T) (i:Nat):T:=g.kids.getD i zT
inductive BJ where
 | done (c:Int)
 | uni (a b:T)
 | not (a b:T)
def MN (n t u:T):BJ:=if n.kind=1 ∨ t.kind=1 then .done 2 else if n.kind≠2 ∨ t.kind≠3 ∨ t.kids.length=0 then .done 3
 else if n.n<1 ∨ (t.kids.length:Int)<n.n then .done 1 else .uni u (kd t (n.n.toNat - 1))
def AH (s:ByteArray) (t:T):Bool:=if s=⟨#[118,97,114]⟩ then decide (t.kind=1) else if s=⟨#[110,111,110,118,97,114]⟩ then !decide (t.kind=1)
 else if s=⟨#[105,110,116]⟩ then decide (t.kind=2) else decide (t.kind=3) && decide (t.kids.length=0)
abbrev oJ:ByteArray:=⟨#[116,114,117,101]⟩
abbrev pe:ByteArray:=⟨#[102,97,105,108]⟩
abbrev nEq:ByteArray:=⟨#[61]⟩
abbrev nNe:ByteArray:=⟨#[92,61]⟩
abbrev vE:ByteArray:=⟨#[61,61]⟩
abbrev nIs:ByteArray:=⟨#[105,115]⟩
abbrev IK:ByteArray:=⟨#[97,114,103]⟩
def Pb (n:Int):T:=.mk 2 n emptyB []
def i6 (g:T):BJ:=
 if g.name=oJ then .done 0
 else if g.name=pe then .done 1
 else if g.name=nEq then .uni (kd g 0) (kd g 1)
 else if g.name=nNe then .not (kd g 0) (kd g 1)
 else if g.name=vE then .done (ji (eqT (kd g 0) (kd g 1)))
 else if g.name=nIs then (if (dM (kd g 1)).2≠0 then .done (dM (kd g 1)).2 else .uni (kd g 0) (Pb (dM (kd g 1)).1))
 else if g.name=IK then MN (kd g 0) (kd g 1) (kd g 2)
 else if df g.name hZ=true then .done (Zd g.name (gG g.kids))
 else .done (ji (AH g.name (kd g 0)))
def BltJ (st:al) (j:BJ) (code:Int) (st':al):Prop:=match j with
 | .done c=>code=c/\st'=st
 | .uni a b=>∃ r,Uni st (.one a b) r st'/\code=ji r
 | .not a b=>st'=st/\∃ r st1,Uni st (.one a b) r st1/\code=ji (!r)
def Blt (st:al) (g:T) (code:Int) (st':al):Prop:=BltJ st (i6 g) code st'
theorem ot {s:ByteArray} {n:Int} (hs:df s sn=true) (h:fk s n=true):n=2:=by
 rw [fk,ai hs] at h
 exact of_decide_eq_true h
theorem Y5 {n:Int} (h:fk IK n=true):n=3:=by
 rw [fk,ah (by decide +kernel),ah (by decide +kernel),ah (by decide +kernel),ai rfl] at h
 exact of_decide_eq_true h
theorem Gs {s:ByteArray} {l:List ByteArray}:df s l=false↔∀ x∈l,s≠x:=by
 rw [df,List.any_eq_false]
 simp
theorem Yc {s:ByteArray} (h:df s hZ=true):df s sn=true:=by
 rw [df,Gw] at h ⊢
 obtain ⟨x,hx,hd⟩:=h
 refine ⟨x,?_,hd⟩
 simp only [hZ,bN,jd,je] at hx
 rcases hx with rfl|rfl|rfl|rfl|rfl <;> simp [sn]
theorem tF {s:ByteArray} {n:Int} (h:fk s n=true) (h1:s≠oJ) (h2:s≠pe) (h3:s≠nEq) (h4:s≠nNe) (h5:s≠vE) (h6:s≠nIs) (hc:df s hZ=false) :
  (df s wy=true/\n=1) ∨ (s=IK/\n=3):=by
 have hk:df s sn=false:=by
  rw [Gs] at hc ⊢
  intro x hx
  simp only [sn,bN,jd,je] at hx
  rcases hx with rfl|rfl|rfl|rfl|rfl|rfl|rfl|rfl|rfl <;> first|assumption|exact hc _ (by simp [hZ])
 have hk2:df s qu=false:=by
  rw [Gs]
  intro x hx
  simp only [qu,bN,jd,je] at hx
  rcases hx with rfl|rfl <;> assumption
 rw [fk,hk,hk2,ah (by decide),ah (by decide)] at h
 cases ht:df s wy
 ·rw [ht,ah (by decide)] at h
  split at h
  ·rename_i e; exact .inr ⟨e,of_decide_eq_true h⟩
  ·cases h
 ·rw [ht,ai rfl] at h
  exact .inl ⟨rfl,of_decide_eq_true h⟩
theorem LY {l:List T} (h:l.length=1):∃ x,l=[x]:=by
 match l,h with
 | [x],_=>exact ⟨x,rfl⟩
theorem VZ {l:List T} (h:l.length=3):∃ x y z,l=[x,y,z]:=by
 match l,h with
 | [x,y,z],_=>exact ⟨x,y,z,rfl⟩
def aaV (N:Nat):BJ->Prop
 | .done _=>True
 | .uni a b=>okJ N (.one a b)
 | .not a b=>okJ N (.one a b)
theorem BltJ.ex {N:Nat} {st:al} {j:BJ} (hg:Good N st) (hj:aaV N j):∃ c st',BltJ st j c st':=by
 match j,hj with
 | .done c,_=>exact ⟨c,st,rfl,rfl⟩
 | .uni a b,hj=>
  have hj:okJ N (.one a b):=hj
  obtain ⟨r,st',hu⟩:=Ft (unb st) st hg (aW _) _ hj
  exact ⟨_,st',r,hu,rfl⟩
 | .not a b,hj=>
  have hj:okJ N (.one a b):=hj
  obtain ⟨r,st',hu⟩:=Ft (unb st) st hg (aW _) _ hj
  exact ⟨_,st,rfl,r,st',hu,rfl⟩
theorem Yo (N:Nat) (n:Int):okU N (Pb n):=by
 rw [Pb,okU,dw]
 exact ⟨by decide,(fun h=>by cases h),trivial,by decide +kernel⟩
theorem ZG {g:T} {i:Nat} (h:i<g.kids.length):kd g i∈g.kids:=by
 rw [kd,Tt,gL h]
 exact bz h
theorem C6 {N:Nat} {g:T} {i:Nat} (ho:okU N g/\wT g<=1048576) (h:i<g.kids.length):okU N (kd g i)/\wT (kd g i)<=1048576:=nP ho _ (ZG h)
theorem Nv {N:Nat} {g:T} (hb:cI g=true) (ho:okU N g/\wT g<=1048576):aaV N (i6 g):=by
 rw [cI,bu] at hb
 have hb:=hb.2
 have hlen:∀ m:Nat,((g.kids.length:Nat):Int)=m->g.kids.length=m:=fun m h=>by omega
 unfold i6
 split
 ·trivial
 split
 ·trivial
 split
 ·rename_i h; rw [h] at hb
  have:=ot (by decide +kernel) hb
  exact ⟨C6 ho (by omega),C6 ho (by omega)⟩
 split
 ·rename_i h; rw [h] at hb
  have:=ot (by decide +kernel) hb
  exact ⟨C6 ho (by omega),C6 ho (by omega)⟩
 split
 ·trivial
 split
 ·rename_i h; rw [h] at hb
  have:=ot (by decide +kernel) hb
  split
  ·trivial
  ·exact ⟨C6 ho (by omega),Yo N _,by have e:emptyB.size=0:=rfl; simp only [Pb,wT,wL,bU]; omega⟩
 split
 ·rename_i h; rw [h] at hb
  have:=Y5 hb
  unfold MN
  split
  ·trivial
  split
  ·trivial
  split
  ·trivial
  ·rename_i h1 h2 h3
   have k1:=C6 (i:=1) ho (by omega)
   exact ⟨C6 ho (by omega),C6 k1 (by omega)⟩
 split
 ·trivial
 ·trivial
theorem Blt.ex {N:Nat} {st:al} {g:T} (hg:Good N st) (hb:cI g=true) (ho:okU N g/\wT g<=1048576):∃ c st',Blt st g c st':=BltJ.ex hg (Nv hb ho)
theorem Blt.good {N:Nat} {st st':al} {g:T} {c:Int} (hg:Good N st) (hb:cI g=true) (ho:okU N g/\wT g<=1048576) (h:Blt st g c st'):Good N st':=by
 have hj:=Nv hb ho
 unfold Blt at h
 match hb:i6 g,h,hj with
 | .done c,h,_=>exact h.2 ▸ hg
 | .uni a b,⟨r,hu,_⟩,hj=>exact (hu.good hg hj).1
 | .not a b,h,_=>exact h.1 ▸ hg
theorem RdSl.ptr {α:Type} {S:ae} {k:Nat} {R:List Value->α->Prop} {v:Value} {xs:List α} (h:RdSl S k R v xs) (hi:0<xs.length) :
  ∃ b o cap c E fz,v=.slice (some ⟨b,o,none⟩) xs.length cap/\S b=some (.cells c E fz)/\∀ i (h:i<xs.length),R (aX c (o+i * k) k) xs[i]:=by
 obtain ⟨a,cap,rfl,hl,hc,h⟩:=h
 rcases h with h|⟨b,o,c,E,fz,rfl,hS,h⟩
 ·subst h; simp at hi
 ·exact ⟨b,o,cap,c,E,fz,rfl,hS,h⟩
section
attribute [local irreducible] Run CondV az aO
end
end
section
open Go Go.RowKit
section
attribute [local irreducible] Run CondV az aO
def neSt (w0:World) (X:List Nat) (A:List Item) (S:ae) (N:Nat) (st:al) (r:Bool) (ll vh qB:Value) (w':World):Nat->Prop
 | 0=>Inv w0 X A S w'
 | 1=>Inv w0 X (A++[.row ll ab 4 0 []]) S w'
 | 2=>∃ g cap cur,vh=kvU g N cap/\KnU S cur st/\Inv w0 X (A++[.blk g (.cells cur ab)]) S w'
 | _=>qB=.bool r/\∃ R,Inv w0 X (A++R) S w'
theorem neSt.inv {w0 w':World} {X:List Nat} {A:List Item} {S:ae} {N:Nat} {st:al} {r:Bool} {ll vh qB:Value}:∀ {n:Nat},neSt w0 X A S N st r ll vh qB w' n->∃ R,Inv w0 X (A++R) S w'
 | 0,h=>⟨[],by rw [dh]; exact h⟩
 | 1,h=>⟨_,h⟩
 | 2,⟨_,_,_,_,_,h⟩=>⟨_,h⟩
 | _+3,h=>h.2
end
end
section
open Go Go.RowKit
section
variable {P:Program} {w w0:World} {X:List Nat} {L:List Item} {S:ae} {K:Value->World->Prop}
attribute [local irreducible] Run CondV az aO
theorem mn {T kt et ty:TypeId} {b clock:Nat} {es:Array MapEntry} {n:Int} {z v:Value} {ok c:Bool} (hb:w.heap[b]?=some (.map es clock)) (hT:P.underlying T=some (.map kt et)) (hkt:P.underlying kt=some (.int .i64))
  (hz:fL P et=some z) (hf:(∃ j,Instr.findNow (.int .i64) (.int .i64 n) es.toList 0=some (some (j,v))/\ok=true) ∨ (Instr.findNow (.int .i64) (.int .i64 n) es.toList 0=some none/\v=z/\ok=false))
  (hk:K (cond c (.tuple #[v,.bool ok]) v) w):Run P (sOp (.lookup T (.const (.map (some b))) (.const (.int .i64 n)) c) ty) w K:=by
 have hck:∀ e,(Instr.checkKey e 10000 kt (.int .i64 n)).run P w=.ok () w:=fun e=>by
  rw [show (10000:Nat)=9999+1 from rfl,Instr.checkKey]
  simp [run_underlying hkt]
 obtain ⟨inf,hi1,hi2⟩:∃ inf,P.info? et=some inf/\inf.zero=some z:=by
  unfold fL at hz
  cases hinf:P.info? et with
  | none=>rw [hinf] at hz; simp at hz
  | some inf=>rw [hinf] at hz; exact ⟨inf,rfl,by simpa using hz⟩
 have hzv:(zeroValue et).run P w=.ok z w:=by simp [zeroValue,typeInfo,hi1,hi2]
 refine Run.of ?_ hk
 have hg:(getObj b).run P w=.ok (.map es clock) w:=by simp [getObj,Sem.run,hb]
 rcases hf with ⟨j,hf,rfl⟩|⟨hf,rfl,rfl⟩
 ·have hfk:=fF (P:=P) (w:=w) hkt hf
  cases c <;> simp [sOp,execOp,ev0,evE,Instr.lookup,run_underlying hT,hg,hck,hfk]
 ·have hfk:=fF (P:=P) (w:=w) hkt hf
  cases c <;> simp [sOp,execOp,ev0,evE,Instr.lookup,run_underlying hT,hg,hck,hfk,hzv]
end
section
attribute [local irreducible] Run CondV az aO
theorem Iq {f:FuncId} {fn:Func} {cap:List Value} {S0 S:ae} {v:Value} {xs:List T} (hf:Tryz.prog.funcs[f]?=some fn) (hn:(fn.name == "runtime.NumGoroutine" || fn.body.isNone)=false) (hle:Sle S0 S)
  (h:RdSl S0 4 (RdT S0) v xs) {J:Nat->List Item->Prop} {Fin:List Item->Prop}
  (hcall:∀ i (_:i<xs.length) (cs:List Value) (I:List Item),RdT S0 cs xs[i]->J i I->Tri Tryz.prog f (.agg cs.toArray::cap) I S fun r I' S'=>S'=S/\∃ b,r=.bool b/\(b=true->Fin I')/\(b=false->J (i+1) I'))
  {I:List Item} (hJ:J 0 I):Tri Tryz.prog my [v,fv f cap] I S fun r I' S'=>S'=S/\∃ k:Int,r=.int .i64 k/\(0<=k->Fin I')/\(k<0->J xs.length I'):=by
 intro w hI
 have h:RdSl S 4 (RdT S0) v xs:=h.mono hle fun _ _ h=>h
 have hlen:=h.le
 simp only [maxLen] at hlen
 obtain ⟨X,hX⟩:∃ X,X=bE I:=⟨_,rfl⟩
 rw [<- hX] at hI ⊢
 refine fQ.2 ?_
 dsimp only[fQ,aY]
 refine aF h ag ?_
 refine ⟨fun i w'=>∃ (j:Nat) (I':List Item),j<=xs.length/\i=.int .i64 j/\J j I'/\Inv w X I' S w',fun i _=>xs.length - (intOf i).toNat,⟨0,I,be _,rfl,hJ,hI⟩,?_⟩
 intro t8 _ _ _ _ _ _ _ _ _ _ _ _ w'
 rintro ⟨j,I',hj,rfl,hJ',hI⟩
 refine bH ?_
 refine aL (fun hji=>?_) (fun hji=>?_)
 ·have hj':j<xs.length:=by omega
  refine cL hI h ag ad hj' (fun _ _=>RdT.length) fun cs hcs=>?_
  have hI:Inv w X ([]++I') S w':=hI
  refine Run.callVE (A:=[]) hf hn hI (hcall j hj' cs I' hcs hJ') fun v' I2 S2 w'=>?_
  rintro ⟨eS,b,rfl,hb1,hb2⟩ _ hI
  rw [eS] at hI
  clear eS
  have hI:Inv w X I2 S w':=hI
  refine aw (fun hb=>?_) (fun hb=>?_)
  ·exact ⟨_,_,_,rfl,hI,Ext.refl _ _ _,rfl,j,rfl,fun _=>hb1 hb,fun h=>by omega⟩
  ·refine bp (by omega) ?_
   exact ⟨⟨j+1,I2,hj',rfl,hb2 hb,hI⟩,by simp [intOf]; omega⟩
 ·have:j=xs.length:=by omega
  subst this
  exact ⟨_,_,_,rfl,hI,Ext.refl _ _ _,rfl,-1,rfl,fun h=>by omega,fun _=>hJ'⟩
theorem AQ {f:FuncId} {fn:Func} {cap:List Value} {S0 S:ae} {v:Value} {xs:List T} (hf:Tryz.prog.funcs[f]?=some fn) (hn:(fn.name == "runtime.NumGoroutine" || fn.body.isNone)=false) (hle:Sle S0 S)
  (h:RdSl S0 4 (RdT S0) v xs) {J:Nat->List Item->Prop} {Fin:List Item->Prop}
  (hcall:∀ i (_:i<xs.length) (cs:List Value) (I:List Item),RdT S0 cs xs[i]->J i I->Tri Tryz.prog f (.agg cs.toArray::cap) I S fun r I' S'=>S'=S/\∃ b,r=.bool b/\(b=true->Fin I')/\(b=false->J (i+1) I'))
  {I:List Item} (hJ:J 0 I):Tri Tryz.prog jQ [v,fv f cap] I S fun r I' S'=>S'=S/\∃ b,r=.bool b/\(b=true->Fin I')/\(b=false->J xs.length I'):=by
 intro w hI
 obtain ⟨X,hX⟩:∃ X,X=bE I:=⟨_,rfl⟩
 rw [<- hX] at hI ⊢
 refine eO.2 ?_
 dsimp only[eO,aY]
 have hI:Inv w X ([]++I) S w:=hI
 refine Run.callE (A:=[]) lD lM hI (Iq hf hn hle h hcall hJ) fun v' I2 S2 w'=>?_
 rintro ⟨eS,k,rfl,h1,h2⟩ _ hI
 rw [eS] at hI
 refine jS ?_
 exact ⟨_,_,_,rfl,hI,Ext.refl _ _ _,rfl,_,rfl,fun hb=>h1 (of_decide_eq_true hb),fun hb=>h2 (by have:=of_decide_eq_false hb; omega)⟩
def StS (S0 S:ae) (sb:Nat) (st:al):Prop:=∃ mb tv es ck E,S sb=some (.cells #[.map (some mb),tv] E)/\S mb=some (.map es ck)/\KnownM S0 es st
theorem StS.mono {S0 S S':ae} {sb:Nat} {st:al} (h:StS S0 S sb st) (hs:Sle S S'):StS S0 S' sb st:=by
 obtain ⟨mb,tv,es,ck,E,h1,h2,h3⟩:=h
 exact ⟨mb,tv,es,ck,E,hs _ _ h1,hs _ _ h2,h3⟩
theorem StS.find {S0 S:ae} {sb:Nat} {N:Nat} {st:al} (h:StS S0 S sb st) {t:T} (hk:t.kind=1) (ht:okU N t):∃ mb tv es ck E vv ok,S sb=some (.cells #[.map (some mb),tv] E)/\S mb=some (.map es ck)/\
  ((∃ j,Instr.findNow (.int .i64) (.int .i64 t.n) es.toList 0=some (some (j,.agg (List.toArray vv)))/\ok=true) ∨ (Instr.findNow (.int .i64) (.int .i64 t.n) es.toList 0=some none/\(Value.agg (List.toArray vv))=.agg #[.int .i64 0,.int .i64 0,.string ⟨#[]⟩,.slice none 0 0]/\ok=false))/\
  vv.length=4/\(∀ x∈vv,x.oneCell'=true)/\(ok=true->∃ u,look st t=some u/\RdT S0 vv u)/\(ok=false->look st t=none):=by
 obtain ⟨mb,tv,es,ck,E,h1,h2,h3⟩:=h
 obtain ⟨hn0,_⟩:=ht.var hk
 obtain ⟨j,hj⟩:∃ j:Nat,t.n=j:=⟨t.n.toNat,by omega⟩
 have hlk:look st t=(st[j]?).join:=by rw [look,ai hk,hj,dv]
 rw [hj,hlk]
 rcases h3.find j with ⟨q,v,u,cs,hf,rfl,hR,hs⟩|⟨hno,hf⟩
 ·exact ⟨mb,tv,es,ck,E,cs,true,h1,h2,.inl ⟨q,hf,rfl⟩,hR.length,hR.one,fun _=>⟨u,by rw [hs]; rfl,hR⟩,fun h=>by cases h⟩
 ·refine ⟨mb,tv,es,ck,E,[.int .i64 0,.int .i64 0,.string ⟨#[]⟩,.slice none 0 0],false,h1,h2,.inr ⟨hf,rfl,rfl⟩,rfl,by simp [Value.oneCell'],fun h=>(by cases h),fun _=>?_⟩
  cases hs:st[j]? with
  | none=>rfl
  | some o=>
   cases o with
   | none=>rfl
   | some u=>exact absurd hs (hno u)
theorem lV {N:Nat} {st:al} (hg:Good N st) {t v:T} (hw:dF st t v) (ht:okU N t) {S0 S:ae} {cs:List Value} {sb:Nat} (hst:StS S0 S sb st) (h:RdT S0 cs t) :
  Tri Tryz.prog FG [.pointer (some ⟨sb,0,none⟩),.agg cs.toArray] [] S fun r I' S'=>S'=S/\I'=[]/\∃ cs',r=.agg cs'.toArray/\RdT S0 cs' v:=by
 intro w hI
 have hI:Inv w [] [] S w:=hI
 obtain ⟨r,hr⟩:=hg.rk
 refine rD.2 ?_
 dsimp only[rD,aY]
 refine bq hI fun b3 w' hI=>?_
 refine aT hI aZ fun b4 w' hI=>?_
 have hI:Inv w [] [.blk b3 (.cells cs.toArray ab),.blk b4 (.cells #[.int .i64 0,.int .i64 0,.string ⟨#[]⟩,.slice none 0 0] ab)] S w':=hI
 refine ⟨fun w'=>∃ cs',RdT S0 cs' v/\Inv w [] [.blk b3 (.cells cs'.toArray ab),.blk b4 (.cells #[.int .i64 0,.int .i64 0,.string ⟨#[]⟩,.slice none 0 0] ab)] S w',?_,?_⟩
 ·refine ⟨fun w'=>∃ (t':T) (cs':List Value),dF st t' v/\okU N t'/\RdT S0 cs' t'/\Inv w [] [.blk b3 (.cells cs'.toArray ab),.blk b4 (.cells #[.int .i64 0,.int .i64 0,.string ⟨#[]⟩,.slice none 0 0] ab)] S w',
   fun w'=>N9 b3 r st w',⟨t,cs,hw,ht,h,hI⟩,?_⟩
  intro _ _ _ t6 t5 t19 t18 t10 t17 t16 t15 t14 t13 t12 t11 _ _ _ w'
  rintro ⟨t',cs',hw',ht',hcs',hI⟩
  have hrank:=PA hI (i:=0) rfl hcs' r st
  have hcs0:=hcs'
  obtain ⟨kv,rfl,_⟩:=RdT.iff.1 hcs'
  refine af hI 0 rfl aR aG rfl ?_
  refine bl ?_
  refine aL (fun hk1=>?_) (fun hk1=>?_)
  ·obtain ⟨mb,tv,es,ck,E,vv,ok,hsb,hmb,hfind,hvl,hvo,hyes,hno⟩:=hst.find hk1 ht'
   refine ⟨fun D x6 x5 lp rT GJ lN pr wJ AJ vC wi Gi w_=>Fx D 0 [Gi=.pointer (some ⟨sb,0,none⟩),wi=.pointer (some ⟨sb,0,none⟩),vC=.pointer (some ⟨sb,0,none⟩),AJ=.map (some mb),wJ=.pointer (some ⟨b3,1,none⟩),pr=.int .i64 t'.n,lN=.tuple #[.agg vv.toArray,.bool ok],GJ=.tuple #[.agg vv.toArray,.bool ok],rT=.agg vv.toArray,lp=.bool ok,True,True,x6=.bool ok]/\∃ b5,(D 10=true->x5=.pointer (some ⟨b5,0,none⟩))/\(D 11=true->D 10=true)/\Inv w [] ([.blk b3 (.cells #[.int .i64 t'.kind,.int .i64 t'.n,.string t'.name,kv] ab),.blk b4 (.cells #[.int .i64 0,.int .i64 0,.string ⟨#[]⟩,.slice none 0 0] ab)]++cond (D 10) [.blk b5 (.cells (cond (D 11) vv.toArray #[.int .i64 0,.int .i64 0,.string ⟨#[]⟩,.slice none 0 0]) ab)] []) S w_,⟨Fx.nil _ _,⟨0,aQ,aQ,hI.draw⟩⟩,⟨?_,?_,?_,?_,?_,?_,?_,?_,?_,?_,?_,?_,?_,trivial⟩,?_⟩
   all_goals (intro D bF; intros; rename_i x6 x5 lp rT GJ lN pr wJ AJ vC wi Gi w_ hA_; have hF_:=hA_.1; obtain ⟨⟨cj,ci,bR,ce,bP,bY,bZ,cH,c5,dI,bX,cr,cZ,_⟩,⟨b5,e5,k11,hI⟩⟩:=hA_)
   ·exact ⟨hF_.set 0 rfl,⟨b5,e5,k11,hI⟩⟩
   ·obtain rfl:=cj ‹_›
    refine aB ?_
    exact ⟨hF_.set 1 rfl,⟨b5,e5,k11,hI⟩⟩
   ·obtain rfl:=ci ‹_›
    refine au oH ?_
    exact ⟨hF_.set 2 rfl,⟨b5,e5,k11,hI⟩⟩
   ·obtain rfl:=bR ‹_›
    refine ct (by decide +kernel) (by rw [hI.cellS hsb]; rfl) ?_
    exact ⟨hF_.set 3 rfl,⟨b5,e5,k11,hI⟩⟩
   ·refine au bf ?_
    exact ⟨hF_.set 4 rfl,⟨b5,e5,k11,hI⟩⟩
   ·obtain rfl:=bP ‹_›
    refine aN hI 0 aG rfl rfl ?_
    exact ⟨hF_.set 5 rfl,⟨b5,e5,k11,hI⟩⟩
   ·obtain rfl:=ce ‹_›
    obtain rfl:=bY ‹_›
    refine mn (ok:=ok) (v:=.agg vv.toArray) (hI.pub _ _ hmb).1 eA fK aZ hfind ?_
    exact ⟨hF_.set 6 rfl,⟨b5,e5,k11,hI⟩⟩
   ·obtain rfl:=bZ ‹_›
    exact ⟨hF_.set 7 rfl,⟨b5,e5,k11,hI⟩⟩
   ·obtain rfl:=cH ‹_›
    refine ar rfl ?_
    exact ⟨hF_.set 8 rfl,⟨b5,e5,k11,hI⟩⟩
   ·obtain rfl:=cH ‹_›
    refine ar rfl ?_
    exact ⟨hF_.set 9 rfl,⟨b5,e5,k11,hI⟩⟩
   ·have f11:D 11=false:=bB.2 fun h=>by rw [k11 h] at bF; cases bF
    rw [bF] at hI
    refine aT hI aZ fun b5 w_ hI=>?_
    have e5:=fun (_:aD D 10 10=true)=>(rfl:Value.pointer (some ⟨b5,0,none⟩)=_)
    have k11:=fun (_:aD D 10 11=true)=>(rfl:aD D 10 10=true)
    have hI:Inv w [] ([.blk b3 (.cells #[.int .i64 t'.kind,.int .i64 t'.n,.string t'.name,kv] ab),.blk b4 (.cells #[.int .i64 0,.int .i64 0,.string ⟨#[]⟩,.slice none 0 0] ab)]++cond true [.blk b5 (.cells (cond (D 11) vv.toArray #[.int .i64 0,.int .i64 0,.string ⟨#[]⟩,.slice none 0 0]) ab)] []) S w_:=by rw [f11]; exact hI
    exact ⟨hF_.set 10 (by first|assumption|trivial),⟨b5,e5,k11,hI⟩⟩
   ·have M1:=bX ‹_›
    obtain rfl:=c5 ‹_›
    have q5:=e5 ‹D 10=true›
    subst q5
    rw [bF,‹D 10=true›] at hI
    refine aC hI 2 rfl ad (by simpa using hvl) rfl (by simpa using hvo) fun w_ hI=>?_
    have k11:=fun (_:aD D 11 11=true)=>‹D 10=true›
    have hI:Inv w [] ([.blk b3 (.cells #[.int .i64 t'.kind,.int .i64 t'.n,.string t'.name,kv] ab),.blk b4 (.cells #[.int .i64 0,.int .i64 0,.string ⟨#[]⟩,.slice none 0 0] ab)]++cond (D 10) [.blk b5 (.cells (cond true vv.toArray #[.int .i64 0,.int .i64 0,.string ⟨#[]⟩,.slice none 0 0]) ab)] []) S w_:=by rw [‹D 10=true›]; exact hI
    exact ⟨hF_.set 11 trivial,⟨b5,e5,k11,hI⟩⟩
   ·obtain rfl:=dI ‹_›
    exact ⟨hF_.set 12 rfl,⟨b5,e5,k11,hI⟩⟩
   obtain ⟨rfl,rfl,rfl,rfl,rfl,rfl,rfl,rfl,rfl,rfl,M1,_,rfl,_⟩:=hF_.all
   have XH:D 10=true:=by assumption
   have np:D 11=true:=by assumption
   clear hF_ cj ci bR ce bP bY bZ cH c5 dI bX cr cZ
   have q5:=e5 XH
   subst q5
   rw [XH,np] at hI
   have hI:Inv w [] [.blk b3 (.cells #[.int .i64 t'.kind,.int .i64 t'.n,.string t'.name,kv] ab),.blk b4 (.cells #[.int .i64 0,.int .i64 0,.string ⟨#[]⟩,.slice none 0 0] ab),.blk b5 (.cells vv.toArray ab)] S w_:=hI
   refine bQ ?_
   refine aw (fun hb=>?_) (fun hb=>?_)
   ·have hok:ok=false:=by simpa using hb
    have hl:=hno hok
    have hv:v=t':=by
     cases hw' with
     | stop _=>rfl
     | step h1 _=>rw [h1] at hl; cases hl
    subst hv
    exact ⟨_,hcs0,hI.pick [true,true,false]⟩
   ·have hok:ok=true:=by simpa using hb
    obtain ⟨u,hl,hRu⟩:=hyes hok
    have hwu:dF st u v:=by
     cases hw' with
     | stop h0=>rw [hl] at h0; cases h0
     | step h1 h2=>rw [hl,bg] at h1; rw [h1]; exact h2
    refine av hI 2 ad rfl (by simpa using hvl) ?_
    refine aC hI 0 rfl ad (by simpa using hvl) rfl (by simpa using hvo) fun w' hI=>?_
    have hI:Inv w [] [.blk b3 (.cells vv.toArray ab),.blk b4 (.cells #[.int .i64 0,.int .i64 0,.string ⟨#[]⟩,.slice none 0 0] ab)] S w':=hI.pick [true,true,false]
    refine ⟨⟨u,vv,hwu,(hg.look_ok hl).1,hRu,hI⟩,?_⟩
    have hrank2:=PA hI (i:=0) rfl hRu r st
    show N9 b3 r st w'<N9 b3 r st _
    have hl1:(look st t').isSome=true:=by rw [hl]; rfl
    rw [hrank,hrank2,ai hl1]
    split
    ·rename_i hl2
     obtain ⟨u2,hl2⟩:=Option.isSome_iff_exists.1 hl2
     have:=hr _ u (dr.1 hl).2 u.n.toNat (by rw [jX (dr.1 hl2).1]; exact cd.2 rfl)
     omega
    ·omega
  ·have hv:v=t':=by
    cases hw' with
    | stop _=>rfl
    | step h1 _=>exact absurd (dr.1 h1).1 hk1
   subst hv
   exact ⟨_,hcs0,hI⟩
 ·intro _ _ _ _ _ _ _ _ _ _ _ _ _ _ _ _ _ _ w'
  rintro ⟨cs',hcs',hI⟩
  have hlc:=hcs'.length
  refine av hI 0 ad rfl (by simpa using hlc) ?_
  refine aC hI 1 rfl ad (by simpa using hlc) rfl (by simpa using hcs'.one) fun w' hI=>?_
  refine bJ hI 1 ad rfl (by simpa using hlc) ?_
  exact ⟨_,_,_,rfl,hI.nil,Ext.refl _ _ _,rfl,rfl,_,rfl,hcs'⟩
def MetM (es:Array MapEntry) (met:Nat->Prop):Prop:=(∀ e∈es.toList,∃ n:Nat,e.key=.int .i64 n/\e.val=.bool true/\met n)/\∀ n,met n->∃ e∈es.toList,e.key=.int .i64 (n:Nat)
theorem MetM.find {es:Array MapEntry} {met:Nat->Prop} (h:MetM es met) (n:Nat):(met n/\∃ j,Instr.findNow (.int .i64) (.int .i64 n) es.toList 0=some (some (j,.bool true))) ∨ (¬ met n/\Instr.findNow (.int .i64) (.int .i64 n) es.toList 0=some none):=by
 rcases uN (n:=n) es.toList 0 (fun e he=>by obtain ⟨m,hk,_⟩:=h.1 e he; exact ⟨m,hk⟩) with ⟨j,e,he,hk,hf⟩|⟨hk,hf⟩
 ·obtain ⟨m,hk2,hv,hm⟩:=h.1 e he
  rw [hk] at hk2
  simp only [Value.int.injEq,xO] at hk2
  have:n=m:=by omega
  subst this
  rw [hv] at hf
  exact .inl ⟨hm,j,hf⟩
 ·refine .inr ⟨fun hm=>?_,hf⟩
  obtain ⟨e,he,hk2⟩:=h.2 n hm
  exact hk e he hk2
theorem MetM.push {es:Array MapEntry} {met:Nat->Prop} (h:MetM es met) (n:Nat) (ck:Nat):MetM (es.push { key:=.int .i64 n,val:=.bool true,born:=ck }) (fun m=>met m ∨ m=n):=by
 refine ⟨fun e he=>?_,fun m hm=>?_⟩
 ·rw [VV] at he
  rcases bO.1 he with he|he
  ·obtain ⟨m,hk,hv,hm⟩:=h.1 e he
   exact ⟨m,hk,hv,.inl hm⟩
  ·simp at he
   subst he
   exact ⟨n,rfl,rfl,.inr rfl⟩
 ·rw [VV]
  rcases hm with hm|rfl
  ·obtain ⟨x,hx,hk⟩:=h.2 m hm
   exact ⟨x,dy _ hx,hk⟩
  ·exact ⟨_,iA _ (cd.2 rfl),rfl⟩
theorem MetM.empty:MetM #[] (fun _=>False):=⟨fun e he=>by simp at he,fun n h=>h.elim⟩
theorem JX {st:al} {r:Nat->Nat} (hr:∀ (n:Nat) (u:T),st[n]?=some (some u)->∀ m∈vT u,r m<r n) {t v:T} (hw:dF st t v):∀ u,look st t=some u->∀ y∈vT v,r y<r t.n.toNat:=by
 induction hw with
 | stop h=>intro u hu; rw [h] at hu; cases hu
 | step hl hw' ih=>
  rename_i t u v
  intro u' _ y hy
  have h1:=hr _ u (dr.1 hl).2
  cases hl2:look st u with
  | none=>
   have:v=u:=by
    cases hw' with
    | stop _=>rfl
    | step h3 _=>rw [h3] at hl2; cases hl2
   subst this
   exact h1 y hy
  | some u2=>
   have h2:=ih u2 hl2 y hy
   have h3:=h1 u.n.toNat (by rw [jX (dr.1 hl2).1]; exact cd.2 rfl)
   omega
theorem ON {N:Nat} {st:al} {t v:T} (h:Good N st) (hw:dF st t v) (ht:okU N t):okU N v:=by
 induction hw with
 | stop=>exact ht
 | step hl _ ih=>exact ih (h.look_ok hl).1
theorem W5 {st:al} {r:Nat->Nat} (hr:∀ (n:Nat) (u:T),st[n]?=some (some u)->∀ m∈vT u,r m<r n) {a c:Nat} (h:Rch st a c):r c<=r a:=by
 induction h with
 | refl=>exact aW _
 | step h1 h2 _ ih=>have:=hr _ _ h1 _ h2; omega
theorem SU {st:al} {t v:T} (hw:dF st t v):∀ u,look st t=some u->∀ y∈vT v,Rch st t.n.toNat y:=by
 induction hw with
 | stop h=>intro u hu; rw [h] at hu; cases hu
 | step hl hw' ih=>
  rename_i t u v
  intro u' _ y hy
  cases hl2:look st u with
  | none=>
   have:v=u:=by
    cases hw' with
    | stop _=>rfl
    | step h3 _=>rw [h3] at hl2; cases hl2
   subst this
   exact .step (dr.1 hl).2 hy (.refl y)
  | some u2=>exact .step (dr.1 hl).2 (by rw [jX (dr.1 hl2).1]; exact cd.2 rfl) (ih u2 hl2 y hy)
def OC (st:al) (sb n:Nat) (t:T):Prop:=∀ (S0 S:ae) (cs:List Value) (mm ck:Nat) (es:Array MapEntry) (met:Nat->Prop),Sle S0 S->StS S0 S sb st->RdT S0 cs t->MetM es met->(∀ m,met m->(∃ x∈vT t,Rch st x m)->¬ Rch st m n)->
 Tri Tryz.prog Bu [.pointer (some ⟨sb,0,none⟩),.int .i64 n,.agg cs.toArray,.map (some mm)] [.blk mm (.map es ck)] S fun r I' S'=>S'=S/\∃ es' ck',I'=[.blk mm (.map es' ck')]/\
  ((i8 st n t/\r=.bool true) ∨ (¬ i8 st n t/\r=.bool false/\∃ met',MetM es' met'/\(∀ m,met m->met' m)/\∀ m,met' m->met m ∨ ¬ Rch st m n))
theorem GS {st:al} {sb n:Nat} {t:T} (hoc:OC st sb n t) {S0 S:ae} {cs:List Value} {mm ck b4 b5 b7:Nat} {E4 E5 E7:TypeId} {es:Array MapEntry} {met:Nat->Prop} (hle:Sle S0 S) (hst:StS S0 S sb st) (h:RdT S0 cs t) (hm:MetM es met)
  (hpre:∀ m,met m->(∃ x∈vT t,Rch st x m)->¬ Rch st m n) (h4:S b4=some (.cells #[.pointer (some ⟨sb,0,none⟩)] E4)) (h5:S b5=some (.cells #[.int .i64 n] E5)) (h7:S b7=some (.cells #[.map (some mm)] E7)) :
  Tri Tryz.prog wW [.agg cs.toArray,.pointer (some ⟨b4,0,none⟩),.pointer (some ⟨b5,0,none⟩),.pointer (some ⟨b7,0,none⟩)] [.blk mm (.map es ck)] S fun r I' S'=>S'=S/\∃ es' ck',I'=[.blk mm (.map es' ck')]/\
  ((i8 st n t/\r=.bool true) ∨ (¬ i8 st n t/\r=.bool false/\∃ met',MetM es' met'/\(∀ m,met m->met' m)/\∀ m,met' m->met m ∨ ¬ Rch st m n)):=by
 intro w hI
 have hlc:=h.length
 obtain ⟨X,hX⟩:∃ X,X=bE [Item.blk mm (.map es ck)]:=⟨_,rfl⟩
 rw [<- hX] at hI ⊢
 refine lz.2 ?_
 dsimp only[lz,lC]
 refine bq hI fun b1 w' hI=>?_
 have hI:Inv w X ([.blk b1 (.cells cs.toArray ab)]++[.blk mm (.map es ck)]) S w':=hI.perm (List.Perm.swap ..)
 refine ct fh (by rw [hI.cellS h4]; rfl) ?_
 refine ct aG (by rw [hI.cellS h5]; rfl) ?_
 refine av hI 0 ad rfl (by simpa using hlc) ?_
 refine ct (by decide +kernel) (by rw [hI.cellS h7]; rfl) ?_
 refine Run.callE jq jr hI (hoc S0 S cs mm ck es met hle hst h hm hpre) fun v' I' S' w'=>?_
 rintro ⟨eS,es',ck',rfl,hres⟩ _ hI
 rw [eS] at hI
 exact ⟨_,_,_,rfl,hI.pick [false,true],Ext.refl _ _ _,rfl,es',ck',rfl,hres⟩
theorem PO {N:Nat} {st:al} (hg:Good N st) {sb n:Nat} (hn:∀ u,st[n]?≠some (some u)) (hnN:n<1000000000) {t v:T} (ho:okU N t) (hwv:dF st t v)
  (hv:t.kind=1->v.kind≠1->OC st sb n v) (hk:t.kind≠1->∀ x∈t.kids,OC st sb n x):OC st sb n t:=by
 intro S0 S cs mm ck es met hle hst h hmet hpre w hI
 have hlc:=h.length
 obtain ⟨X,hX⟩:∃ X,X=bE [Item.blk mm (.map es ck)]:=⟨_,rfl⟩
 rw [<- hX] at hI ⊢
 have h0:=h
 obtain ⟨kv,rfl,_,_,_,hks⟩:=RdT.iff.1 h
 refine oC.2 ?_
 dsimp only[oC,lC]
 refine bq hI fun b4 w' hI=>?_
 refine bq hI fun b5 w' hI=>?_
 refine bq hI fun b6 w' hI=>?_
 refine bq hI fun b7 w' hI=>?_
 have hI:Inv w X [.blk mm (.map es ck),.blk b4 (.cells #[.pointer (some ⟨sb,0,none⟩)] mc),.blk b5 (.cells #[.int .i64 n] bV),.blk b6 (.cells #[.int .i64 t.kind,.int .i64 t.n,.string t.name,kv] ab),.blk b7 (.cells #[.map (some mm)] jh)] S w':=hI
 refine af hI 3 rfl aR aG rfl ?_
 refine bl ?_
 refine aL (fun hk1=>?_) (fun hk1=>?_)
 ·obtain ⟨hn0,_⟩:=ho.var hk1
  obtain ⟨j,hj⟩:∃ j:Nat,t.n=j:=⟨t.n.toNat,by omega⟩
  have hvt:vT t=[j]:=by rw [jX hk1,hj,dv]
  have hzb:fL Tryz.prog MF=some (.bool false):=by kernel_rfl
  have hun:Tryz.prog.underlying jh=some (.map bV MF):=by kernel_rfl
  refine aN hI 4 (by decide +kernel) rfl rfl ?_
  refine af hI 3 rfl bf aG rfl ?_
  rw [hj] at hI ⊢
  rcases hmet.find j with ⟨hmj,q,hf⟩|⟨hmj,hf⟩
  ·refine mn (c:=false) (ok:=true) (v:=.bool true) (hI.its (.blk mm (.map es ck)) (by simp)) hun fK hzb (.inl ⟨q,hf,rfl⟩) ?_
   refine aw (fun _=>?_) (fun hb=>by cases hb)
   have hno:¬ i8 st n t:=by
    rintro ⟨x,hx,hr⟩
    have hxj:=hx
    rw [hvt,cd] at hxj
    subst hxj
    exact hpre x hmj ⟨x,hx,.refl x⟩ hr
   exact ⟨_,_,_,rfl,hI.pick [true,false,false,false,false],Ext.refl _ _ _,rfl,es,ck,rfl,.inr ⟨hno,rfl,met,hmet,fun _ h=>h,fun _ h=>.inl h⟩⟩
  refine mn (c:=false) (ok:=false) (v:=.bool false) (hI.its (.blk mm (.map es ck)) (by simp)) hun fK hzb (.inr ⟨hf,rfl,rfl⟩) ?_
  refine aw (fun hb=>by cases hb) (fun _=>?_)
  refine aN hI 4 (by decide +kernel) rfl rfl ?_
  refine af hI 3 rfl bf aG rfl ?_
  refine GY hI 0 hun fK rfl hf fun w' hI=>?_
  have hmet2:=hmet.push j ck
  generalize hes2:es.push { key:=.int .i64 (j:Int),val:=.bool true,born:=ck }=es2 at hmet2
  rw [hes2] at hI
  have hI:Inv w X [.blk mm (.map es2 (ck+1)),.blk b4 (.cells #[.pointer (some ⟨sb,0,none⟩)] mc),.blk b5 (.cells #[.int .i64 n] bV),.blk b6 (.cells #[.int .i64 t.kind,.int .i64 j,.string t.name,kv] ab),.blk b7 (.cells #[.map (some mm)] jh)] S w':=hI
  refine aN hI 1 fh rfl rfl ?_
  refine av hI 3 ad rfl rfl ?_
  rw [hj] at h0
  refine Run.call0 iV iX hI (lV hg hwv ho hst h0) fun v' I' S' w'=>?_
  rintro ⟨eS,rfl,cs',rfl,hcs'⟩ _ hI
  rw [eS] at hI
  clear eS
  have hlc':=hcs'.length
  refine aT hI aZ fun b9 w' hI=>?_
  have hI:Inv w X [.blk mm (.map es2 (ck+1)),.blk b4 (.cells #[.pointer (some ⟨sb,0,none⟩)] mc),.blk b5 (.cells #[.int .i64 n] bV),.blk b6 (.cells #[.int .i64 t.kind,.int .i64 j,.string t.name,kv] ab),.blk b7 (.cells #[.map (some mm)] jh),.blk b9 _] S w':=hI
  refine aC hI 5 rfl ad (by simpa using hlc') rfl (by simpa using hcs'.one) fun w' hI=>?_
  have hcs0:=hcs'
  obtain ⟨kv',rfl,_⟩:=RdT.iff.1 hcs'
  have hI:Inv w X [.blk mm (.map es2 (ck+1)),.blk b4 (.cells #[.pointer (some ⟨sb,0,none⟩)] mc),.blk b5 (.cells #[.int .i64 n] bV),.blk b6 (.cells #[.int .i64 t.kind,.int .i64 j,.string t.name,kv] ab),.blk b7 (.cells #[.map (some mm)] jh),.blk b9 (.cells #[.int .i64 v.kind,.int .i64 v.n,.string v.name,kv'] ab)] S w':=hI
  have hocc:=VU hwv hn
  have hmj2:∀ m,(met m ∨ m=j)->¬ i8 st n t->met m ∨ ¬ Rch st m n:=by
   rintro m (hm|rfl) hno
   ·exact .inl hm
   ·exact .inr fun hr=>hno ⟨m,by rw [hvt]; exact cd.2 rfl,hr⟩
  refine af hI 5 rfl aR aG rfl ?_
  refine bl ?_
  refine aL (fun hv1=>?_) (fun hv1=>?_)
  ·refine af hI 5 rfl bf aG rfl ?_
   refine aN hI 2 aG rfl rfl ?_
   refine bl ?_
   have hiff:i8 st n v↔v.n.toNat=n:=by
    have hfree:=Bb.1 (pS hwv) hv1
    constructor
    ·rintro ⟨x,hx,hr⟩
     rw [jX hv1,cd] at hx
     subst hx
     cases hr with
     | refl=>rfl
     | step h1 _ _=>
      rcases hfree with e|e
      ·rw [e] at h1; cases h1
      ·rw [e] at h1; cases h1
    ·intro e
     exact ⟨n,by rw [jX hv1,e]; exact cd.2 rfl,.refl n⟩
   have hvn0:0<=v.n:=by
    exact ((ON hg hwv ho).var hv1).1
   have hres:decide (v.n=(n:Int))=decide (v.n.toNat=n):=by
    rw [mf,bk,bk]
    omega
   rw [hres]
   refine ⟨_,_,_,rfl,hI.pick [true,false,false,false,false,false],Ext.refl _ _ _,rfl,es2,ck+1,rfl,?_⟩
   by_cases e:v.n.toNat=n
   ·left
    exact ⟨hocc.2 (hiff.2 e),by rw [aI e]⟩
   ·right
    have hno:¬ i8 st n t:=fun h=>e (hiff.1 (hocc.1 h))
    exact ⟨hno,by rw [aP e],_,hmet2,fun m hm=>.inl hm,fun m hm=>hmj2 m hm hno⟩
  ·refine aN hI 1 fh rfl rfl ?_
   refine aN hI 2 aG rfl rfl ?_
   refine av hI 5 ad rfl rfl ?_
   refine aN hI 4 (by decide +kernel) rfl rfl ?_
   have hI:Inv w X ([.blk b4 (.cells #[.pointer (some ⟨sb,0,none⟩)] mc)]++[.blk mm (.map es2 (ck+1))]) S w':=(hI.pick [true,true,false,false,false,false]).perm (List.Perm.swap ..)
   have hlk:∃ u,look st t=some u:=by
    cases hl:look st t with
    | some u=>exact ⟨u,rfl⟩
    | none=>
     have:v=t:=by
      cases hwv with
      | stop _=>rfl
      | step h1 _=>rw [h1] at hl; cases hl
     rw [this] at hv1
     exact absurd hk1 hv1
   obtain ⟨u,hl⟩:=hlk
   obtain ⟨rk,hrk⟩:=hg.rk
   have hwr:=JX hrk hwv u hl
   have hpre2:∀ m,(met m ∨ m=j)->(∃ x∈vT v,Rch st x m)->¬ Rch st m n:=by
    rintro m (hm|rfl) ⟨x,hx,hr⟩
    ·refine hpre m hm ⟨j,by rw [hvt]; exact cd.2 rfl,?_⟩
     have h1:=SU hwv u hl x hx
     rw [hj,dv] at h1
     exact h1.trans hr
    ·exfalso
     have h1:=hwr x hx
     have h2:=W5 hrk hr
     rw [hj,dv] at h1
     omega
   refine Run.callE jq jr hI (hv hk1 hv1 S0 S _ mm (ck+1) es2 _ hle hst hcs0 hmet2 hpre2) fun v' I' S' w'=>?_
   rintro ⟨eS,es3,ck3,rfl,hres⟩ _ hI
   rw [eS] at hI
   refine ⟨_,_,_,rfl,hI.pick [false,true],Ext.refl _ _ _,rfl,es3,ck3,rfl,?_⟩
   rcases hres with ⟨h1,rfl⟩|⟨h1,rfl,met3,hm3,h2,h3⟩
   ·exact .inl ⟨hocc.2 h1,rfl⟩
   ·have hno:¬ i8 st n t:=fun h=>h1 (hocc.1 h)
    refine .inr ⟨hno,rfl,met3,hm3,fun m hm=>h2 m (.inl hm),fun m hm=>?_⟩
    rcases h3 m hm with h4|h4
    ·exact hmj2 m h4 hno
    ·exact .inr h4
 ·refine af hI 3 rfl ao aj rfl ?_
  refine ia ?_
  have hvt:vT t=vTL t.kids:=oF hk1
  have hI:Inv w X ([.blk mm (.map es ck)]++bv [(b4,.cells #[.pointer (some ⟨sb,0,none⟩)] mc),(b5,.cells #[.int .i64 n] bV),(b7,.cells #[.map (some mm)] jh)]) S w':=hI.pick [true,true,true,false,true]
  obtain ⟨S1,hle1,hins,hI1,hback⟩:=Inv.lendAll _ hI
  have h4:=hins _ (aS ..)
  have h5:=hins _ (aV _ (aS ..))
  have h7:=hins _ (aV _ (aV _ (aS ..)))
  have hI1:Inv w X ([]++[.blk mm (.map es ck)]) S1 w':=hI1
  refine Run.callE (A:=[]) d5 d4 hI1 (AQ vz vo (hle.trans hle1) hks
   (J:=fun i I=>∃ es' ck' met',I=[.blk mm (.map es' ck')]/\MetM es' met'/\(∀ m,met m->met' m)/\(∀ m,met' m->met m ∨ ¬ Rch st m n)/\∀ k (_:k<t.kids.length),k<i->¬ i8 st n t.kids[k])
   (Fin:=fun I=>∃ es' ck',I=[.blk mm (.map es' ck')]/\i8 st n t) ?_ ⟨es,ck,met,rfl,hmet,fun _ h=>h,fun _ h=>.inl h,fun k _ h=>by omega⟩) fun v' I2 S2 w'=>?_
  ·rintro i hi cs I hcs ⟨es',ck',met',rfl,hm',hsub,hnew,hdone⟩
   have hpre2:∀ m,met' m->(∃ x∈vT t.kids[i],Rch st x m)->¬ Rch st m n:=by
    rintro m hm ⟨x,hx,hr⟩
    rcases hnew m hm with h1|h1
    ·exact hpre m h1 ⟨x,by rw [hvt]; exact nQ.2 ⟨_,bz hi,hx⟩,hr⟩
    ·exact h1
   intro w1 hI1
   refine (GS (hk hk1 _ (bz hi)) (hle.trans hle1) (hst.mono hle1) hcs hm' hpre2 h4 h5 h7 w1 hI1).mono ?_
   rintro e w2 ⟨v',I',S',rfl,hI2,hE,hS,es3,ck3,rfl,hres⟩
   refine ⟨_,_,_,rfl,hI2,hE,hS,?_⟩
   rcases hres with ⟨h1,rfl⟩|⟨h1,rfl,met3,hm3,h2,h3⟩
   ·obtain ⟨x,hx,hr⟩:=h1
    exact ⟨true,rfl,fun _=>⟨es3,ck3,rfl,x,by rw [hvt]; exact nQ.2 ⟨_,bz hi,hx⟩,hr⟩,fun e=>by cases e⟩
   ·refine ⟨false,rfl,fun e=>(by cases e),fun _=>⟨es3,ck3,met3,rfl,hm3,fun m hm=>h2 m (hsub m hm),fun m hm=>?_,fun k hk2 hki=>?_⟩⟩
    ·rcases h3 m hm with h4|h4
     ·exact hnew m h4
     ·exact .inr h4
    ·by_cases e:k=i
     ·subst e; exact h1
     ·exact hdone k hk2 (by omega)
  rintro ⟨eS,b,rfl,hb1,hb2⟩ _ hI
  rw [eS] at hI
  have hI:Inv w X I2 S1 w':=hI
  have hI:=hback _ _ hI
  cases b with
  | true=>
   obtain ⟨es',ck',rfl,hocc⟩:=hb1 rfl
   exact ⟨_,_,_,rfl,hI.sub (dB _ _),Ext.refl _ _ _,rfl,es',ck',rfl,.inl ⟨hocc,rfl⟩⟩
  | false=>
   obtain ⟨es',ck',met',rfl,hm',hsub,hnew,hdone⟩:=hb2 rfl
   have hno:¬ i8 st n t:=by
    rintro ⟨x,hx,hr⟩
    rw [hvt] at hx
    obtain ⟨y,hy,hx⟩:=nQ.1 hx
    obtain ⟨k,hk2,rfl⟩:=BW.1 hy
    exact hdone k hk2 hk2 ⟨x,hx,hr⟩
   exact ⟨_,_,_,rfl,hI.sub (dB _ _),Ext.refl _ _ _,rfl,es',ck',rfl,.inr ⟨hno,rfl,met',hm',hsub,hnew⟩⟩
theorem M9 {N:Nat} {st:al} (hg:Good N st) {sb n:Nat} (hn:∀ u,st[n]?≠some (some u)) (hnN:n<1000000000):∀ t:T,okU N t->OC st sb n t:=by
 obtain ⟨rk,hrk⟩:=hg.rk
 have hone:∀ (m:Nat) (a:T),(∀ x∈vT a,∀ u,st[x]?=some (some u)->rk x<m)->okU N a->OC st sb n a:=by
  intro m
  induction m using Nat.strongRecOn with
  | _ m ihm=>
   refine T.ind fun k n' s ks ih hr ho=>?_
   obtain ⟨v,hwv⟩:=Ug hg (.mk k n' s ks)
   refine PO hg hn hnN ho hwv (fun hk1 hv1=>?_) (fun hk1 x hx=>?_)
   ·cases hl:look st (.mk k n' s ks) with
    | none=>
     have:v=.mk k n' s ks:=by
      cases hwv with
      | stop _=>rfl
      | step h1 _=>rw [h1] at hl; cases hl
     rw [this] at hv1
     exact absurd hk1 hv1
    | some u=>
     have hs:=(dr.1 hl).2
     have hlt:=hr _ (by rw [jX hk1]; exact cd.2 rfl) u hs
     exact ihm _ hlt v (fun x hx _ _=>JX hrk hwv u hl x hx) (ON hg hwv ho)
   ·exact ih x hx (fun y hy u hs=>hr y (by rw [oF hk1]; exact nQ.2 ⟨x,hx,hy⟩) u hs) (kP ho.kids x hx)
 have hM:∀ l:List Nat,∃ M,∀ m∈l,rk m<M:=by
  intro l
  induction l with
  | nil=>exact ⟨0,by simp⟩
  | cons x l ih=>
   obtain ⟨M,hM⟩:=ih
   refine ⟨M+rk x+1,fun m hm=>?_⟩
   rcases bN.1 hm with rfl|hm
   ·omega
   ·have:=hM m hm; omega
 intro t ho
 obtain ⟨M,hM⟩:=hM (vT t)
 exact hone M t (fun x hx _ _=>hM x hx) ho
end
end
end Go.Proofs.YtgllldjiaglkcaaGreatDoor
