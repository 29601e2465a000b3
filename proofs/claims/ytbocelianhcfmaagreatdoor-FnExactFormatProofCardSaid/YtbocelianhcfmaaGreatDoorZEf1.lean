/- Plain functions: texts of terms and clauses, and how texts are read. Fuel runs out: none. -/
import Derived.Test.YtbocelianhcfmaaGreatDoorZEf0
import Derived.Test.YtbocelianhcfmaaGreatDoorRows
import Derived.ProofKit
import Derived.ReadAgain
import Derived.Carry
import Derived.Test.YtbocelianhcfmaaGreatDoorZEfS
import Derived.Test.YtbocelianhcfmaaGreatDoorZEfF
import Derived.Test.YtbocelianhcfmaaGreatDoorZEfgz
import Derived.Laws.BytesArg
import Derived.Laws.StructEq
import Derived.Laws.Tables
namespace Go.Proofs.YtbocelianhcfmaaGreatDoor
section
open Go Go.RowKit

abbrev Bs:=List UInt8
abbrev bs (s:ByteArray):Bs:=s.data.toList
abbrev st (l:Bs):ByteArray:=⟨l.toArray⟩
theorem su (l:Bs):bs (st l)=l:=by simp [bs]
theorem gn (l:Bs):(st l).size=l.length:=by simp [ByteArray.size]

def sgn (s:Bs) (i:Nat) (c:Nat):Bool:=match s[i]? with
 | some b=>decide (b.toNat=c)
 | none=>false
def btw (s:Bs) (i:Nat) (a b:Nat):Bool:=match s[i]? with
 | some x=>decide (a<=x.toNat) && decide (x.toNat<=b)
 | none=>false
def sml (s:Bs) (i:Nat):Bool:=btw s i 97 122
def dig (s:Bs) (i:Nat):Bool:=btw s i 48 57
def upp (s:Bs) (i:Nat):Bool:=btw s i 65 90
def cut (s:Bs) (a b:Nat):Bs:=(s.take b).drop a


def aU (t:T):Bool:=decide (t.kind=3) && (decide (t.kids.length=2) && decide (0<ad t.name))
def be (t:T):Bool:=decide (t.kind=3) && (decide (t.name=st [46]) && decide (t.kids.length=2))
def il (t:T):Bool:=decide (t.kind=3) && (decide (t.name=st [91,93]) && decide (t.kids.length=0))
def cI (t:T):Bool:=decide (t.kind=3) && (decide (t.kids.length=0) && decide (0<ad t.name))
def dY (s:Bs):Bool:=sml s 0 || (dig s 0 || (upp s 0 || (sgn s 0 91 || sgn s 0 40)))
def aV (n:Bs):Bs:=if n=[105,115] ∨ n=[109,111,100] then 32::(n++[32]) else n
def gK:Nat->Nat->Bs->Option Bs
 | 0,_,_=>none
 | f+1,n,out=>if 9<n then gK f (n / 10) (UInt8.ofNat (48+n % 10)::out) else some (UInt8.ofNat (48+n)::out)
def l6 (n:Int):Option Bs:=if n<0 then (gK 20 (-n).toNat []).map fun l=>45::l else gK 20 n.toNat []
def fJ (t:T):Option Bs:=if t.kind=1 then (if 0<=t.n/\t.n<=25 then some [UInt8.ofNat (65+t.n.toNat)] else none)
 else if t.kind=2 then (if -999<=t.n/\t.n<=999 then l6 t.n else none) else if t.kids.length=0 then some (bs t.name) else none
mutual
def gf:Nat->T->Option Bs
 | 0,_=>none
 | f+1,t=>if be t=true then gL f t [] else if aU t=true then match t.kids with
   | [a,b]=>match mY f a (if ad t.name=3 then 2 else ad t.name),iL f b (ad t.name - 1) with
    | some x,some y=>some (x++aV (bs t.name)++y)
    | _,_=>none
   | _=>none
  else if t.kind=3/\0<t.kids.length then match da f t.kids [] with
   | some x=>some (bs t.name++[40]++x++[41])
   | none=>none
  else fJ t
def gL:Nat->T->List T->Option Bs
 | 0,_,_=>none
 | f+1,t,items=>if be t=true then match t.kids with
   | [a,b]=>gL f b (items++[a])
   | _=>none
  else match da f items [] with
   | none=>none
   | some x=>if il t=true then some ([91]++x++[93]) else match gf f t with
    | none=>none
    | some y=>some ([91]++x++[124]++y++[93])
def da:Nat->List T->Bs->Option Bs
 | 0,_,_=>none
 | _+1,[],out=>some out
 | f+1,t::l,out=>match gf f t with
  | none=>none
  | some x=>da f l (out++x++(if l=[] then [] else [44]))
def cU:Nat->T->Int->Option Bs
 | 0,_,_=>none
 | f+1,t,l=>match gf f t with
  | none=>none
  | some x=>some (if aU t=true/\l<ad t.name then [40]++x++[41] else x)
def mY:Nat->T->Int->Option Bs
 | 0,_,_=>none
 | f+1,t,l=>if cI t=true then match gf f t with
   | none=>none
   | some x=>some ([40]++x++[41])
  else cU f t l
def iL:Nat->T->Int->Option Bs
 | 0,_,_=>none
 | f+1,t,l=>match cU f t l with
  | none=>none
  | some x=>if x=[] then none else some (if cI t=true ∨ dY x=false then [40]++x++[41] else x)
end
end
section
open Go Go.RowKit
def iZ (x:Bs):Bs:=[40]++x++[41]
def bq:List Bs->Bs
 | []=>[]
 | [x]=>x
 | x::y::l=>x++[44]++bq (y::l)
def lfx (t:T) (y:Bs) (m:Int):Bs:=if cI t=true then iZ y else if aU t=true/\m<ad t.name then iZ y else y
def brx (t:T) (y:Bs) (m:Int):Bs:=if aU t=true/\m<ad t.name then iZ y else y
def rtx (t:T) (y:Bs) (m:Int):Bs:=if cI t=true ∨ dY (brx t y m)=false then iZ (brx t y m) else brx t y m
def kM (t:T) (l:List (Bs × Bs)):Bs:=
 if be t=true then (match l with
  | [p,q]=>[91]++p.1++q.2++[93]
  | _=>[])
 else if aU t=true then (match t.kids,l with
  | [a,b],[p,q]=>lfx a p.1 (if ad t.name=3 then 2 else ad t.name)++aV (bs t.name)++rtx b q.1 (ad t.name - 1)
  | _,_=>[])
 else if t.kind=3/\0<t.kids.length then bs t.name++[40]++bq (l.map (·.1))++[41]
 else (fJ t).getD []
def pw (t:T) (l:List (Bs × Bs)) (x:Bs):Bs:=
 if be t=true then (match l with
  | [p,q]=>[44]++p.1++q.2
  | _=>[])
 else if il t=true then [] else [124]++x
mutual
def bo:T->Bs × Bs
 | .mk k n s ks=>(kM (.mk k n s ks) (boL ks),pw (.mk k n s ks) (boL ks) (kM (.mk k n s ks) (boL ks)))
def boL:List T->List (Bs × Bs)
 | []=>[]
 | t::ts=>bo t::boL ts
end
def tx (t:T):Bs:=(bo t).1
def tl (t:T):Bs:=(bo t).2
theorem nY:∀ ks:List T,boL ks=ks.map bo
 | []=>rfl
 | t::ts=>by rw [boL,nY ts]; rfl
theorem py:∀ t:T,tx t=kM t (t.kids.map bo)
 | .mk k n s ks=>by rw [tx,bo,nY]; rfl
theorem sx:∀ t:T,tl t=pw t (t.kids.map bo) (tx t)
 | .mk k n s ks=>by rw [py,tl,bo,nY]; rfl
theorem cT {t:T} (h:be t=true):t.kind=3/\t.name=st [46]/\∃ a b,t.kids=[a,b]:=by
 simp only [be,Bool.and_eq_true,decide_eq_true_eq] at h
 refine ⟨h.1,h.2.1,?_⟩
 match hk:t.kids,h.2.2 with
 | [a,b],_=>exact ⟨a,b,rfl⟩
theorem gc {t:T} (h:aU t=true):t.kind=3/\0<ad t.name/\∃ a b,t.kids=[a,b]:=by
 simp only [aU,Bool.and_eq_true,decide_eq_true_eq] at h
 refine ⟨h.1,h.2.2,?_⟩
 match hk:t.kids,h.2.1 with
 | [a,b],_=>exact ⟨a,b,rfl⟩
theorem nT {t a b:T} (hp:be t=true) (hk:t.kids=[a,b]):tx t=[91]++tx a++tl b++[93]:=by
 rw [py]; unfold kM; rw [if_pos hp,hk]; rfl
theorem nD {t a b:T} (hp:be t=true) (hk:t.kids=[a,b]):tl t=[44]++tx a++tl b:=by
 rw [sx]; unfold pw; rw [if_pos hp,hk]; rfl
theorem qb {t:T} (hp:be t=false) (hn:il t=true):tl t=[]:=by
 rw [sx]; unfold pw; rw [if_neg (by rw [hp]; decide),if_pos hn]
theorem np {t:T} (hp:be t=false) (hn:il t=false):tl t=[124]++tx t:=by
 rw [sx]; unfold pw; rw [if_neg (by rw [hp]; decide),if_neg (by rw [hn]; decide)]
theorem lD {t a b:T} (hp:be t=false) (hi:aU t=true) (hk:t.kids=[a,b]) :
  tx t=lfx a (tx a) (if ad t.name=3 then 2 else ad t.name)++aV (bs t.name)++rtx b (tx b) (ad t.name - 1):=by
 rw [py]; unfold kM; rw [if_neg (by rw [hp]; decide),if_pos hi,hk]; rfl
theorem nX {t:T} (hp:be t=false) (hi:aU t=false) (h:t.kind=3/\0<t.kids.length):tx t=bs t.name++[40]++bq (t.kids.map tx)++[41]:=by
 rw [py]; unfold kM; rw [if_neg (by rw [hp]; decide),if_neg (by rw [hi]; decide),if_pos h,List.map_map]; rfl
theorem ik {t:T} (hp:be t=false) (hi:aU t=false) (h:¬(t.kind=3/\0<t.kids.length)):tx t=(fJ t).getD []:=by
 rw [py]; unfold kM; rw [if_neg (by rw [hp]; decide),if_neg (by rw [hi]; decide),if_neg h]
def okTx (t:T):Prop:=∃ d,bL t d=true
theorem lj {t:T} (h:bz t=true):okTx t:=by
 rw [bz,Bool.and_eq_true] at h
 exact ⟨30,h.1⟩
theorem lx:∀ {ts:List T} {d:Int},bU ts d=true->∀ t∈ts,bL t d=true
 | [],_,_,t,ht=>by simp at ht
 | x::xs,d,h,t,ht=>by
  rw [bU,Bool.and_eq_true] at h
  rcases List.mem_cons.1 ht with rfl|ht
  ·exact h.1
  ·exact lx h.2 t ht
theorem okTx.own {t:T} (h:okTx t):bn t=true:=by
 obtain ⟨d,h⟩:=h
 cases t
 rw [bL] at h
 split at h
 ·cases h
 ·rw [Bool.and_eq_true] at h; exact h.1
theorem okTx.kid {t:T} (h:okTx t):∀ a∈t.kids,okTx a:=by
 obtain ⟨d,h⟩:=h
 cases t
 rw [bL] at h
 split at h
 ·cases h
 ·rw [Bool.and_eq_true] at h
  exact fun a ha=>⟨_,lx h.2 a ha⟩
theorem ce {t:T} (h:bn t=true):(t.kind=1/\(0<=t.n/\t.n<=25)/\t.kids=[]) ∨ (t.kind=2/\(-999<=t.n/\t.n<=999)/\t.kids=[]) ∨ (t.kind=3/\cJ t.name=true/\t.kids.length<=4):=by
 unfold bn at h
 by_cases e1:t.kind=1
 ·rw [if_pos e1] at h
  simp only [Bool.and_eq_true,decide_eq_true_eq,List.length_eq_zero_iff] at h
  exact .inl ⟨e1,⟨h.1,h.2.1⟩,h.2.2.2⟩
 ·rw [if_neg e1] at h
  by_cases e2:t.kind=2
  ·rw [if_pos e2] at h
   simp only [Bool.and_eq_true,decide_eq_true_eq,List.length_eq_zero_iff] at h
   exact .inr (.inl ⟨e2,⟨h.1,h.2.1⟩,h.2.2.2⟩)
  ·rw [if_neg e2] at h
   by_cases e3:t.kind=3
   ·rw [if_pos e3] at h
    simp only [Bool.and_eq_true,decide_eq_true_eq] at h
    exact .inr (.inr ⟨e3,h.2.1,h.2.2⟩)
   ·rw [if_neg e3] at h; cases h
def noNl (x:Bs):Prop:=∀ b∈x,b.toNat≠10
theorem noNl.app {x y:Bs} (hx:noNl x) (hy:noNl y):noNl (x++y):=fun b hb=>(List.mem_append.1 hb).elim (hx b) (hy b)
theorem noNl.lit {x:Bs} (h:x.all (fun b=>decide (b.toNat≠10))=true):noNl x:=fun b hb=>of_decide_eq_true (List.all_eq_true.1 h b hb)
def qc (n:Nat):Bool:=match gK 20 n [] with
 | some r=>decide (0<r.length) && (decide (r.length<=3) && r.all fun b=>decide (b.toNat≠10))
 | none=>false
theorem qp:∀ n:Nat,n<=999->qc n=true:=by
 have h:∀ n:Fin 1000,qc n.val=true:=by decide +kernel
 exact fun n hn=>h ⟨n,by omega⟩
theorem ie {n:Int} (h:-999<=n/\n<=999):∃ r,l6 n=some r/\0<r.length/\r.length<=4/\noNl r:=by
 have hd:∀ m:Nat,m<=999->∃ r,gK 20 m []=some r/\0<r.length/\r.length<=3/\noNl r:=fun m hm=>by
  have h1:=qp m hm
  unfold qc at h1
  split at h1
  ·rename_i r hr
   simp only [Bool.and_eq_true,decide_eq_true_eq] at h1
   exact ⟨r,hr,h1.1,h1.2.1,noNl.lit h1.2.2⟩
  ·cases h1
 unfold l6
 split
 ·obtain ⟨r,h1,h2,h3,h4⟩:=hd (-n).toNat (by omega)
  refine ⟨45::r,by rw [h1]; rfl,by simp,by simp; omega,?_⟩
  exact noNl.app (x:=[45]) (noNl.lit (by decide)) h4
 ·obtain ⟨r,h1,h2,h3,h4⟩:=hd n.toNat (by omega)
  exact ⟨r,h1,h2,by omega,h4⟩
theorem kr {s:ByteArray} (h:cJ s=true):0<(bs s).length/\(bs s).length<=6/\noNl (bs s):=by
 rw [cJ,Bool.or_eq_true] at h
 rcases h with h|h
 ·rw [cH,dE] at h
  simp only [Bool.and_eq_true,decide_eq_true_eq] at h
  have hs:(bs s).length=s.size:=Array.length_toList
  refine ⟨by omega,by omega,fun b hb=>?_⟩
  have:=List.all_eq_true.1 h.1 b hb
  simp only [ec,Bool.and_eq_true,decide_eq_true_eq] at this
  omega
 ·simp only [List.any_eq_true,decide_eq_true_eq] at h
  obtain ⟨x,hx,rfl⟩:=h
  have hall:signs.all (fun y=>decide (0<(bs y).length) && (decide ((bs y).length<=6) && (bs y).all fun b=>decide (b.toNat≠10)))=true:=by decide +kernel
  have:=List.all_eq_true.1 hall x hx
  simp only [Bool.and_eq_true,decide_eq_true_eq] at this
  exact ⟨this.1,this.2.1,noNl.lit this.2.2⟩
theorem m9 {t:T} (ho:bn t=true) (h:¬(t.kind=3/\0<t.kids.length)):∃ x,fJ t=some x/\0<x.length/\x.length<=6/\noNl x:=by
 unfold fJ
 rcases ce ho with ⟨h1,h2,_⟩|⟨h1,h2,_⟩|⟨h1,h2,h3⟩
 ·rw [if_pos h1,if_pos h2]
  refine ⟨_,rfl,by simp,by simp,fun b hb=>?_⟩
  simp only [List.mem_singleton] at hb
  subst hb
  have:(UInt8.ofNat (65+t.n.toNat)).toNat=(65+t.n.toNat) % 256:=UInt8.toNat_ofNat'
  omega
 ·rw [if_neg (by omega),if_pos h1,if_pos h2]
  obtain ⟨r,h4,h5,h6,h7⟩:=ie h2
  exact ⟨r,h4,h5,by omega,h7⟩
 ·rw [if_neg (by omega),if_neg (by omega),if_pos (by omega)]
  obtain ⟨h4,h5,h6⟩:=kr h2
  exact ⟨_,rfl,h4,h5,h6⟩
def qQ:List Bs->Nat
 | []=>0
 | x::l=>x.length+qQ l
theorem m8:∀ l:List Bs,(bq l).length<=qQ l+l.length
 | []=>by simp [bq]
 | [x]=>by simp [bq,qQ]
 | x::y::l=>by
  have:=m8 (y::l)
  simp only [bq,qQ,List.length_append,List.length_cons,List.length_nil] at this ⊢
  omega
theorem oH:∀ l:List Bs,(∀ x∈l,noNl x)->noNl (bq l)
 | [],_=>by intro b hb; simp [bq] at hb
 | [x],h=>h x (by simp)
 | x::y::l,h=>((h x (by simp)).app (noNl.lit (by decide))).app (oH (y::l) fun z hz=>h z (List.mem_cons_of_mem _ hz))
theorem n7 {x:Bs} (h:noNl x):noNl (iZ x):=((noNl.lit (by decide)).app h).app (noNl.lit (by decide))
theorem pJ {t:T} {y:Bs} {m:Int} (h:0<y.length) (hn:noNl y):0<(brx t y m).length/\(brx t y m).length<=y.length+2/\noNl (brx t y m):=by
 unfold brx
 split
 ·exact ⟨by simp [iZ],by simp [iZ],n7 hn⟩
 ·exact ⟨h,by omega,hn⟩
theorem ux {t:T} {y:Bs} {m:Int} (h:0<y.length) (hn:noNl y):0<(lfx t y m).length/\(lfx t y m).length<=y.length+2/\noNl (lfx t y m):=by
 unfold lfx
 split
 ·exact ⟨by simp [iZ],by simp [iZ],n7 hn⟩
 ·exact pJ h hn
theorem uB {t:T} {y:Bs} {m:Int} (h:0<y.length) (hn:noNl y):0<(rtx t y m).length/\(rtx t y m).length<=y.length+4/\noNl (rtx t y m):=by
 obtain ⟨h1,h2,h3⟩:=pJ (t:=t) (m:=m) h hn
 unfold rtx
 split
 ·exact ⟨by simp [iZ],by simp [iZ]; omega,n7 h3⟩
 ·exact ⟨h1,by omega,h3⟩
theorem rT {s:ByteArray} (h:cJ s=true):(aV (bs s)).length<=8/\noNl (aV (bs s)):=by
 obtain ⟨h1,h2,h3⟩:=kr h
 unfold aV
 split
 ·refine ⟨by simp only [List.length_append,List.length_cons,List.length_nil]; omega,?_⟩
  have:=((noNl.lit (x:=[32]) (by decide)).app h3).app (noNl.lit (x:=[32]) (by decide))
  simpa using this
 ·exact ⟨by omega,h3⟩
def cn (t:T):Nat:=(bD t).toNat
def cnL:List T->Nat
 | []=>0
 | t::ts=>cn t+cnL ts
theorem sm:∀ ts:List T,((cnL ts:Nat):Int)=bw ts
 | []=>rfl
 | t::ts=>by
  have:=sm ts
  have:=cV t
  simp only [cnL,bw,cn]
  omega
theorem lM:∀ t:T,cn t=1+cnL t.kids
 | .mk k n s ks=>by
  have:=sm ks
  have hp:=cY ks
  simp only [cn,bD,T.kids]
  omega
theorem n5:∀ {ts:List T} {t:T},t∈ts->cn t<=cnL ts
 | x::xs,t,h=>by
  simp only [cnL]
  rcases List.mem_cons.1 h with rfl|h
  ·omega
  ·have:=n5 h; omega
theorem eD (t:T):1<=cn t:=by rw [lM]; omega
theorem sS:∀ ts:List T,(∀ a∈ts,(tx a).length<=20 * cn a)->qQ (ts.map tx)<=20 * cnL ts
 | [],_=>by simp [qQ]
 | t::ts,h=>by
  have h1:=h t (by simp)
  have h2:=sS ts fun a ha=>h a (List.mem_cons_of_mem _ ha)
  simp only [List.map_cons,qQ,cnL]
  omega
theorem sF:∀ t:T,okTx t->(0<(tx t).length/\(tx t).length<=20 * cn t/\noNl (tx t))/\((tl t).length<=20 * cn t+1/\noNl (tl t)):=by
 refine T.ind fun k n s ks ih h=>?_
 obtain ⟨t,ht⟩:∃ t,t=T.mk k n s ks:=⟨_,rfl⟩
 have hks:t.kids=ks:=by rw [ht]; rfl
 rw [<- ht] at h ⊢
 rw [<- hks] at ih
 clear ht hks
 have hc:=lM t
 have ih:=fun a ha=>ih a ha (h.kid a ha)
 cases hp:be t with
 | true=>
  obtain ⟨_,_,a,b,hk⟩:=cT hp
  rw [hk] at ih hc
  obtain ⟨⟨a1,a2,a3⟩,-⟩:=ih a (by simp)
  obtain ⟨-,b2,b3⟩:=ih b (by simp)
  simp only [cnL] at hc
  rw [nT hp hk,nD hp hk]
  refine ⟨⟨by simp,by simp; omega,?_⟩,by simp; omega,?_⟩
  ·exact ((noNl.lit (x:=[91]) (by decide)).app a3 |>.app b3).app (noNl.lit (by decide))
  ·exact ((noNl.lit (x:=[44]) (by decide)).app a3).app b3
 | false=>
  have hx:0<(tx t).length/\(tx t).length<=20 * cn t/\noNl (tx t):=by
   cases hi:aU t with
   | true=>
    obtain ⟨h3,hl,a,b,hk⟩:=gc hi
    obtain ⟨hn1,hn2⟩:(aV (bs t.name)).length<=8/\noNl (aV (bs t.name)):=by
     rcases ce h.own with h1|h1|h1
     ·omega
     ·omega
     ·exact rT h1.2.1
    rw [hk] at ih hc
    obtain ⟨⟨a1,a2,a3⟩,-⟩:=ih a (by simp)
    obtain ⟨⟨b1,b2,b3⟩,-⟩:=ih b (by simp)
    simp only [cnL] at hc
    rw [lD hp hi hk]
    obtain ⟨l1,l2,l3⟩:=ux (t:=a) (m:=if ad t.name=3 then 2 else ad t.name) a1 a3
    obtain ⟨r1,r2,r3⟩:=uB (t:=b) (m:=ad t.name - 1) b1 b3
    refine ⟨by simp only [List.length_append]; omega,by simp only [List.length_append]; omega,(l3.app hn2).app r3⟩
   | false=>
    by_cases hk:t.kind=3/\0<t.kids.length
    ·rw [nX hp hi hk]
     obtain ⟨hn,hl⟩:cJ t.name=true/\t.kids.length<=4:=by
      rcases ce h.own with h1|h1|h1
      ·omega
      ·omega
      ·exact h1.2
     obtain ⟨n1,n2,n3⟩:=kr hn
     have hs:=sS t.kids fun a ha=>(ih a ha).1.2.1
     have hj:=m8 (t.kids.map tx)
     have hjn:=oH (t.kids.map tx) fun x hx=>by
      obtain ⟨a,ha,rfl⟩:=List.mem_map.1 hx
      exact (ih a ha).1.2.2
     rw [List.length_map] at hj
     refine ⟨by simp only [List.length_append,List.length_cons,List.length_nil]; omega,by simp only [List.length_append,List.length_cons,List.length_nil]; omega,((n3.app (noNl.lit (by decide))).app hjn).app (noNl.lit (by decide))⟩
    ·obtain ⟨x,h1,h2,h3,h4⟩:=m9 h.own hk
     rw [ik hp hi hk,h1]
     have:=eD t
     exact ⟨h2,by simp only [Option.getD_some]; omega,h4⟩
  refine ⟨hx,?_⟩
  cases hn:il t with
  | true=>rw [qb hp hn]; exact ⟨by simp,by intro b hb; simp at hb⟩
  | false=>rw [np hp hn]; exact ⟨by simp; omega,(noNl.lit (x:=[124]) (by decide)).app hx.2.2⟩
theorem kH:∀ (l:List Bs) (x:Bs),l≠[]->bq (l++[x])=bq l++[44]++x
 | [],_,h=>absurd rfl h
 | [y],x,_=>rfl
 | y::z::l,x,_=>by
  have:=kH (z::l) x (by simp)
  rw [List.cons_append] at this
  rw [List.cons_append,List.cons_append,bq,this,bq]
  simp
theorem ly:∀ (ts:List T) (f:Nat) (out:Bs),(∀ a∈ts,∀ g,8 * cn a<=g->gf g a=some (tx a))->8 * cnL ts+ts.length+1<=f->da f ts out=some (out++bq (ts.map tx))
 | [],0,_,_,h=>by simp at h
 | [],f+1,out,_,_=>by rw [da]; simp [bq]
 | t::ts,0,_,_,h=>by simp at h
 | t::ts,f+1,out,hx,h=>by
  simp only [cnL,List.length_cons] at h
  rw [da,hx t (by simp) f (by omega)]
  simp only []
  rw [ly ts f _ (fun a ha=>hx a (List.mem_cons_of_mem _ ha)) (by omega)]
  cases ts with
  | nil=>simp [bq]
  | cons u us=>simp [bq]
theorem sy (ts:Nat):∀ (t:T) (items:List T) (f:Nat),cn t<=ts->okTx t->items≠[]->(∀ u,okTx u->cn u<=ts->∀ g,8 * cn u<=g->gf g u=some (tx u))->(∀ a∈items,∀ g,8 * cn a<=g->gf g a=some (tx a))->
  8 * (cn t+cnL items)+items.length+3<=f->gL f t items=some ([91]++bq (items.map tx)++tl t++[93]):=by
 refine T.ind fun k n s ks ih items f hle ho hne hx hI hf=>?_
 obtain ⟨t,ht⟩:∃ t,t=T.mk k n s ks:=⟨_,rfl⟩
 have hks:t.kids=ks:=by rw [ht]; rfl
 rw [<- ht] at ho hle hf ⊢
 rw [<- hks] at ih
 clear ht hks
 have hc:=lM t
 cases f with
 | zero=>omega
 | succ g=>
 rw [gL]
 cases hp:be t with
 | true=>
  obtain ⟨_,_,a,b,hk⟩:=cT hp
  rw [if_pos rfl,hk]
  simp only []
  rw [hk] at hc ih
  simp only [cnL] at hc
  have ha:okTx a:=ho.kid a (by rw [hk]; simp)
  have hb:okTx b:=ho.kid b (by rw [hk]; simp)
  have e:∀ l:List T,cnL (l++[a])=cnL l+cn a:=fun l=>by
   induction l with
   | nil=>simp [cnL]
   | cons x l ih=>simp only [List.cons_append,cnL,ih]; omega
  rw [ih b (by simp) (items++[a]) g (by omega) hb (by simp) hx ?_ (by rw [e]; simp only [List.length_append,List.length_cons,List.length_nil]; omega)]
  ·rw [List.map_append,List.map_cons,List.map_nil,kH _ _ (by simpa using hne),nD hp hk]
   simp
  ·intro u hu
   rcases List.mem_append.1 hu with hu|hu
   ·exact hI u hu
   ·simp only [List.mem_singleton] at hu
    subst hu
    exact hx _ ha (by omega)
 | false=>
  rw [if_neg (by decide),ly items g [] hI (by omega)]
  simp only [List.nil_append]
  cases hn:il t with
  | true=>rw [if_pos rfl,qb hp hn]; simp
  | false=>
   rw [if_neg (by decide),hx t ho hle g (by omega)]
   simp only []
   rw [np hp hn]
   simp
theorem rg:∀ (N:Nat) (t:T),cn t<=N->okTx t->∀ f,8 * cn t<=f->gf f t=some (tx t)
 | 0,t,hN,_,_,_=>by have:=eD t; omega
 | N+1,t,hN,ho,f,hf=>by
  have ih:=rg N
  have hc:=lM t
  have hp1:=eD t
  have hkid:∀ a∈t.kids,∀ g,8 * cn a<=g->gf g a=some (tx a):=fun a ha=>ih a (by have:=n5 ha; omega) (ho.kid a ha)
  cases f with
  | zero=>omega
  | succ f=>
  rw [gf]
  cases hp:be t with
  | true=>
   rw [if_pos rfl]
   obtain ⟨_,_,a,b,hk⟩:=cT hp
   cases f with
   | zero=>omega
   | succ g=>
   rw [gL,if_pos hp,hk]
   simp only [List.nil_append]
   rw [hk] at hc hkid
   simp only [cnL] at hc
   rw [sy N b [a] g (by omega) (ho.kid b (by rw [hk]; simp)) (by simp) (fun u hu hle=>ih u hle hu) (fun u hu=>by
    simp only [List.mem_singleton] at hu
    subst hu
    exact hkid _ (by simp)) (by simp only [cnL,List.length_cons,List.length_nil]; omega),nT hp hk]
   rfl
  | false=>
   rw [if_neg (by decide)]
   cases hi:aU t with
   | true=>
    rw [if_pos rfl]
    obtain ⟨_,_,a,b,hk⟩:=gc hi
    rw [hk] at hc hkid
    simp only [cnL] at hc
    rw [hk,lD hp hi hk]
    simp only []
    have ha:=hkid a (by simp)
    have hb:=hkid b (by simp)
    have bra:∀ (u:T) (l:Int) (g:Nat),(∀ g,8 * cn u<=g->gf g u=some (tx u))->8 * cn u+1<=g->cU g u l=some (brx u (tx u) l):=fun u l g hu hg=>by
     cases g with
     | zero=>omega
     | succ g=>
     rw [cU,hu g (by omega)]
     rfl
    have h1:mY f a (if ad t.name=3 then 2 else ad t.name)=some (lfx a (tx a) (if ad t.name=3 then 2 else ad t.name)):=by
     cases f with
     | zero=>omega
     | succ g=>
     rw [mY,lfx]
     split
     ·rw [ha g (by omega)]; rfl
     ·rw [bra a _ g ha (by omega)]; rfl
    have h2:iL f b (ad t.name - 1)=some (rtx b (tx b) (ad t.name - 1)):=by
     cases f with
     | zero=>omega
     | succ g=>
     have hne:brx b (tx b) (ad t.name - 1)≠[]:=by
      obtain ⟨⟨b1,_,b3⟩,_⟩:=sF b (ho.kid b (by rw [hk]; simp))
      have:=(pJ (t:=b) (m:=ad t.name - 1) b1 b3).1
      intro e
      rw [e] at this
      simp at this
     rw [iL,bra b _ g hb (by omega)]
     simp only []
     rw [if_neg hne]
     rfl
    rw [h1,h2]
   | false=>
    rw [if_neg (by decide)]
    by_cases hk:t.kind=3/\0<t.kids.length
    ·have hl:t.kids.length<=4:=by
      rcases ce ho.own with h1|h1|h1
      ·omega
      ·omega
      ·exact h1.2.2
     rw [if_pos hk,ly t.kids f [] hkid (by omega),nX hp hi hk]
     simp
    ·obtain ⟨x,h1,_⟩:=m9 ho.own hk
     rw [if_neg hk,ik hp hi hk,h1]
     rfl
theorem lB {t:T} (h:bz t=true):gf 960 t=some (tx t)/\(0<(tx t).length/\(tx t).length<=2400/\noNl (tx t)):=by
 have ho:=lj h
 rw [bz,Bool.and_eq_true,decide_eq_true_eq] at h
 have hc:cn t<=120:=by have:=cV t; unfold cn; omega
 obtain ⟨⟨h1,h2,h3⟩,_⟩:=sF t ho
 exact ⟨rg 120 t hc ho 960 (by omega),h1,by omega,h3⟩
end
section
open Go Go.RowKit
attribute [local irreducible] Run CondV ah ax

def RowRd (S:ab) (v:Value) (e:TypeId) (k n:Nat) (xs:List Value):Prop:=
 xs.length=n * k/\((v=.slice none 0 0/\n=0) ∨ ∃ g cap cur,v=.slice (some ⟨g,0,none⟩) n cap/\S g=some (.cells cur e)/\n<=cap/\cap<=maxLen/\cur.size=cap * k/\cur.toList.take (n * k)=xs)
theorem q4 {α:Type} (f:α->List Value) (k:Nat) (hf:∀ y,(f y).length=k):∀ (ys:List α) (i:Nat) (h:i<ys.length),((ys.flatMap f).drop (i * k)).take k=f ys[i]
 | [],i,h=>by simp at h
 | y::ys,0,h=>by
  rw [List.flatMap_cons,Nat.zero_mul,List.drop_zero,List.take_append_of_le_length (by rw [hf]; exact Nat.le_refl _),List.take_of_length_le (by rw [hf]; exact Nat.le_refl _)]
  rfl
 | y::ys,i+1,h=>by
  rw [List.flatMap_cons,Nat.succ_mul,Nat.add_comm,<- List.drop_drop,List.drop_left' (hf y)]
  exact q4 f k hf ys i (by simpa using h)
theorem RowRd.rd {α:Type} {S:ab} {v:Value} {e:TypeId} {k:Nat} {f:α->List Value} {R:List Value->α->Prop} {ys:List α} (hf:∀ y,(f y).length=k) (hR:∀ y∈ys,R (f y) y)
  (h:RowRd S v e k ys.length (ys.flatMap f)):RdSl S k R v ys:=by
 obtain ⟨hl,h⟩:=h
 rcases h with ⟨rfl,h0⟩|⟨g,cap,cur,rfl,hS,hnc,hcm,hcs,ht⟩
 ·have:ys=[]:=List.eq_nil_of_length_eq_zero h0
  subst this
  exact ⟨none,0,rfl,Nat.le_refl _,Nat.zero_le _,.inl rfl⟩
 ·refine ⟨_,cap,rfl,hnc,hcm,.inr ⟨g,0,cur,e,(0,0),rfl,hS,fun i hi=>?_⟩⟩
  have:=q4 f k hf ys i hi
  have hik:i * k+k<=ys.length * k:=by rw [<- Nat.succ_mul]; exact Nat.mul_le_mul_right k hi
  rw [<- ht,List.drop_take,List.take_take,Nat.min_eq_left (by omega)] at this
  rw [aF,Nat.zero_add,this]
  exact hR _ (List.getElem_mem hi)
end
section
open Go Go.RowKit
attribute [local irreducible] Run CondV ah ax
end
section
open Go Go.RowKit
attribute [local irreducible] Run CondV ah ax

section
variable {P:Program} {w w0:World} {X:List Nat} {L:List Item} {S:ab} {K:Value->Value->Value->World->Prop}
end
end
section
open Go Go.ChangeShapes Go.WideShapes Go.ChangeAt Go.RowKit

def jq (W:World):ab:=fun b=>W.heap[b]?
section
variable {H:Type} {enc:TypeId × Value->H} {P:Program} {W:World} {sp:Nat->Bool} {held:Bool}
theorem kQ {t:TypeId} {fuel:Nat} {c:Value} {x:DataW H × List MemPlace} (ht:P.underlying t=some (.int .i64)) (h:DataW.trod enc P W 0 sp held fuel t [c]=some x) :
  ∃ n,c=.int .i64 n/\inI n:=by
 cases fuel with
 | zero=>simp [DataW.trod] at h
 | succ n=>
  unfold DataW.trod at h
  rw [ht] at h
  split at h <;> simp_all
  rename_i k1 k2 m he
  subst he
  obtain ⟨⟨_,h⟩,_⟩:=h
  simp only [Lit.wf,Bool.and_eq_true,decide_eq_true_eq] at h
  exact h
theorem ss {t:TypeId} {fuel:Nat} {c:Value} {x:DataW H × List MemPlace} (ht:P.underlying t=some .string) (h:DataW.trod enc P W 0 sp held fuel t [c]=some x) :
  ∃ s,c=.string s/\s.size<=maxLen:=by
 cases fuel with
 | zero=>simp [DataW.trod] at h
 | succ n=>
  unfold DataW.trod at h
  rw [ht] at h
  split at h <;> simp_all
theorem nc {t:TypeId} {fuel:Nat} {l:List (Nat × TypeId)} {cs:List Value} {x:DataW H × List MemPlace} (ht:tz P t=some l) (h:DataW.trod enc P W 0 sp held fuel t cs=some x) :
  ∃ n,fuel=n+1/\cs.length=P.cellsOf t/\∀ (i:Nat) (o:Nat) (u:TypeId),l[i]?=some (o,u)->∃ y,DataW.trod enc P W 0 sp held n u ((cs.drop o).take (P.cellsOf u))=some y:=by
 unfold tz at ht
 split at ht
 ·rename_i fs hfs
  obtain ⟨xs,n,hn,_,hl,hxs,hf⟩:=DataW.trod_struct hfs h
  refine ⟨n,hn,hl,fun i o u hi=>?_⟩
  simp only [Option.some.injEq] at ht
  subst ht
  rw [List.getElem?_map,Option.map_eq_some_iff] at hi
  obtain ⟨f,hfi,he⟩:=hi
  simp only [Prod.mk.injEq] at he
  obtain ⟨rfl,rfl⟩:=he
  have hfi':fs[i]?=some f:=by rw [<- Array.getElem?_toList]; exact hfi
  have hlt:i<xs.length:=by
   rw [hxs]
   exact (Array.getElem?_eq_some_iff.1 hfi').1
  have:=hf i f hfi'
  rw [List.getElem?_eq_getElem hlt] at this
  exact ⟨_,this⟩
 ·cases ht
theorem rL {a:Addr} {v:Value} (h:W.cell? a=some v):∃ b o c E fz,a=⟨b,o,none⟩/\W.heap[b]?=some (.cells c E fz)/\c[o]?=some v:=by
 obtain ⟨b,o,s⟩:=a
 simp only [World.cell?] at h
 split at h
 ·rename_i c E fz hb
  cases s with
  | none=>exact ⟨b,o,c,E,fz,rfl,hb,by simpa using h⟩
  | some s=>simp at h
 ·cases h
theorem sf {b o k:Nat} {cs:List Value} {c:Array Value} {E:TypeId} {fz:Nat × Nat} (hb:W.heap[b]?=some (.cells c E fz)) (h:W.cells? 0 ⟨b,o,none⟩ k=some cs):aF c o k=cs:=by
 unfold World.cells? at h
 rw [if_pos (Nat.zero_le _)] at h
 have hl:cs.length=k:=by simpa using mapM_some_length h
 apply List.ext_getElem?
 intro i
 rw [aF,List.getElem?_take]
 by_cases hi:i<k
 ·rw [if_pos hi,List.getElem?_drop]
  have:=mapM_some_get h i i (by simp [hi])
  rw [<- this,d2]
  simp [World.cell?,hb]
 ·rw [if_neg hi,List.getElem?_eq_none (by omega)]
theorem jD {α:Type} (p:Nat->α->Prop):∀ n:Nat,(∀ i,i<n->∃ t,p i t)->∃ xs:List α,xs.length=n/\∀ i (h:i<xs.length),p i xs[i]
 | 0,_=>⟨[],rfl,fun i h=>by simp at h⟩
 | n+1,h=>by
  obtain ⟨xs,hl,hx⟩:=jD p n fun i hi=>h i (by omega)
  obtain ⟨t,ht⟩:=h n (by omega)
  refine ⟨xs++[t],by simp [hl],fun i hi=>?_⟩
  by_cases e:i<xs.length
  ·rw [List.getElem_append_left e]
   exact hx i e
  ·have:i=xs.length:=by simp at hi; omega
   subst this
   simp only [List.getElem_append_right (Nat.le_refl _),Nat.sub_self,List.getElem_cons_zero]
   rw [hl]
   exact ht
theorem oQ {T e:TypeId} {k:Nat} (h:bl P T=some (e,k)):P.underlying T=some (.slice e)/\P.cellsOf e=k:=by
 unfold bl at h
 split at h
 ·rename_i e' he
  rw [Option.map_eq_some_iff] at h
  obtain ⟨i,hi,hx⟩:=h
  simp only [Prod.mk.injEq] at hx
  obtain ⟨rfl,rfl⟩:=hx
  exact ⟨he,by simp [Program.cellsOf,hi]⟩
 ·cases h
theorem q3 {α:Type} {R:List Value->α->Prop} {T e:TypeId} {k fuel:Nat} {v:Value} {x:DataW H × List MemPlace} (hu:bl P T=some (e,k)) (hk0:0<k)
  (h:DataW.trod enc P W 0 sp held fuel T [v]=some x) (hel:∀ n cs y,fuel=n+1->DataW.trod enc P W 0 sp held n e cs=some y->∃ t:α,R cs t):∃ xs,RdSl (jq W) k R v xs:=by
 obtain ⟨hu1,hk⟩:=oQ hu
 rcases DataW.trod_slice hu1 h with ⟨hcs,_⟩|⟨a,len,cap,elems,rest,n,hf,hcs,_,_,hl,hc,hlen,hE,_⟩
 ·simp only [List.cons.injEq,and_true] at hcs
  subst hcs
  exact ⟨[],none,0,rfl,Nat.le_refl _,Nat.zero_le _,.inl rfl⟩
 ·simp only [List.cons.injEq,and_true] at hcs
  subst hcs
  have hE':∀ i,i<len->∃ t:α,∃ cs,W.cells? 0 (a.add (i * k)) k=some cs/\R cs t:=by
   intro i hi
   have:=hE i hi
   rw [hk,List.getElem?_eq_getElem (by omega),Option.bind_eq_some_iff] at this
   obtain ⟨cs,h1,h2⟩:=this
   obtain ⟨t,ht⟩:=hel n cs _ hf h2
   exact ⟨t,cs,h1,ht⟩
  obtain ⟨xs,hxl,hxs⟩:=jD _ len hE'
  subst hxl
  refine ⟨xs,some a,cap,rfl,hl,hc,?_⟩
  by_cases h0:xs.length=0
  ·exact .inl (List.eq_nil_of_length_eq_zero h0)
  ·obtain ⟨cs0,h1,_⟩:=hxs 0 (by omega)
   have e0:a.add (0 * k)=a:=by rw [Nat.zero_mul]; simp [Addr.add]
   rw [e0] at h1
   have hc0:∃ u,W.cell? a=some u:=by
    unfold World.cells? at h1
    rw [if_pos (Nat.zero_le _)] at h1
    have hl0:cs0.length=k:=by simpa using mapM_some_length h1
    have:=mapM_some_get h1 0 0 (by simp [hk0])
    rw [List.getElem?_eq_getElem (by omega)] at this
    have e1:a.add 0=a:=by simp [Addr.add]
    rw [e1] at this
    exact ⟨_,this⟩
   obtain ⟨u,hu0⟩:=hc0
   obtain ⟨b,o,c,E,fz,rfl,hb,_⟩:=rL hu0
   refine .inr ⟨b,o,c,E,fz,rfl,hb,fun i hi=>?_⟩
   obtain ⟨cs,h2,hR⟩:=hxs i hi
   rw [d2] at h2
   rw [sf hb h2]
   exact hR
end

section
variable {H:Type} {enc:TypeId × Value->H} {W:World} {sp:Nat->Bool} {held:Bool}
theorem vf {cs:List Value} (h:cs.length=4):∃ a b c d,cs=[a,b,c,d]:=by
 match cs,h with
 | [a,b,c,d],_=>exact ⟨a,b,c,d,rfl⟩
theorem rG:∀ (fuel:Nat) (cs:List Value) (x:DataW H × List MemPlace),DataW.trod enc Tryz.prog W 0 sp held fuel tk cs=some x->∃ t,RdT (jq W) cs t:=by
 intro fuel
 induction fuel using Nat.strongRecOn with
 | _ fuel ih=>
  intro cs x h
  obtain ⟨n,hn,hl,hf⟩:=nc sj h
  rw [pn] at hl
  obtain ⟨c0,c1,c2,c3,rfl⟩:=vf hl
  obtain ⟨y0,h0⟩:=hf 0 _ _ rfl
  obtain ⟨y1,h1⟩:=hf 1 _ _ rfl
  obtain ⟨y2,h2⟩:=hf 2 _ _ rfl
  obtain ⟨y3,h3⟩:=hf 3 _ _ rfl
  rw [s7] at h0 h1
  rw [rK] at h2
  rw [rE] at h3
  obtain ⟨k,rfl,hk⟩:=kQ ga h0
  obtain ⟨m,rfl,hm⟩:=kQ ga h1
  obtain ⟨s,rfl,hs⟩:=ss aw h2
  obtain ⟨ks,hks⟩:=q3 (R:=RdT (jq W)) cb (by omega) h3 fun n' cs' y hn' hy=>ih n' (by omega) cs' y hy
  exact ⟨.mk k m s ks,RdT.iff.2 ⟨c3,rfl,hk,hm,hs,hks⟩⟩
end

theorem Inv.entry (W:World):Inv W [] [] (jq W) W:=Inv.start (L:=[]) (by simp) (by simp [aH]) fun b o hb=>⟨hb,by simp [aH]⟩
theorem Inv.same {W W':World} {L:List Item} {S:ab} (h:Inv W [] L S W') (b:Nat) (hb:b<W.heap.size):W'.heap[b]?=W.heap[b]?:=h.old b hb (by simp)
theorem rM {W W':World} {may:MemPlace->Prop} (ho:W'.os=W.os) (hp:W'.output=W.output) (h:∀ b,b<W.heap.size->W'.heap[b]?=W.heap[b]?):W.keptBut W' may:=by
 refine ⟨ho,hp,fun i hi=>?_⟩
 rw [h i hi]
 split
 ·rename_i e1 e2
  rw [e1] at e2
  simp only [Option.some.injEq,Obj.cells.injEq] at e2
  obtain ⟨rfl,rfl,rfl⟩:=e2
  exact ⟨rfl,rfl,rfl,fun _ _=>rfl⟩
 ·rename_i e1 e2
  rw [e1] at e2
  simp only [Option.some.injEq,Obj.map.injEq] at e2
  obtain ⟨rfl,rfl⟩:=e2
  exact .inr ⟨rfl,rfl⟩
 ·rfl
end
section
open Go Go.RowKit
attribute [local irreducible] Run CondV ah ax

mutual
def szT:T->Int->Int
 | .mk _ _ s ks,left=>if left - s.size<0 then -1 else if left - s.size - ks.length<0 then -1 else szL ks (left - s.size - ks.length)
def szL:List T->Int->Int
 | [],left=>left
 | t::ts,left=>if szT t left<0 then -1 else szL ts (szT t left)
end
def tc (ts:List T) (left:Int):Int:=if left - ts.length<0 then -1 else szL ts (left - ts.length)

mutual
theorem kG:∀ (t:T) (left:Int),0<=left->-1<=szT t left/\szT t left<=left
 | .mk k n s ks,left,h=>by
  simp only [szT]
  split
  ·omega
  ·split
   ·omega
   ·have:=pZ ks (left - s.size - ks.length) (by omega)
    omega
theorem pZ:∀ (ts:List T) (left:Int),0<=left->-1<=szL ts left/\szL ts left<=left
 | [],left,h=>by simp only [szL]; omega
 | t::ts,left,h=>by
  simp only [szL]
  have h1:=kG t left h
  split
  ·omega
  ·have h2:=pZ ts (szT t left) (by omega)
   omega
end

theorem pO {ts:List T} (ih:∀ t∈ts,∀ (S:ab) (cs:List Value) (left:Int),RdT S cs t->0<=left->left<=4611686018427387904->Pure Tryz.prog kT [.agg cs.toArray,.int .i64 left] S (.int .i64 (szT t left)))
  {S:ab} {v:Value} {left:Int} (h:RdSl S 4 (RdT S) v ts) (h0:0<=left) (h1:left<=4611686018427387904):Pure Tryz.prog oD [v,.int .i64 left] S (.int .i64 (tc ts left)):=by
 intro w hI
 have hlen:(ts.length:Int)<=9223372036854775807:=by have:=h.le; simp only [maxLen] at this; omega
 refine gJ.2 ?_
 dsimp only[gJ,aC]
 refine az h cb ?_
 refine fG (by omega) ?_
 refine aZ ?_
 refine aP (fun hlt=>?_) (fun hlt=>?_)
 ·exact ae hI (by rw [tc,if_pos hlt])
 refine ⟨fun i l w'=>∃ (k:Nat) (l':Int),k<=ts.length/\i=.int .i64 k/\l=.int .i64 l'/\0<=l'/\l'<=left/\szL (ts.drop k) l'=szL ts (left - ts.length)/\Inv w [] [] S w',
  fun i _ _=>ts.length - (intOf i).toNat,⟨0,_,Nat.zero_le _,rfl,rfl,by omega,by omega,rfl,hI⟩,?_⟩
 intro t5 _ _ _ _ _ t1 _ _ _ _ _ _ _ _ _ _ w'
 rintro ⟨k,l',hk,rfl,rfl,hl0,hl1,hrel,hI⟩
 refine az h cb ?_
 refine aZ ?_
 refine aP (fun hki=>?_) (fun hki=>?_)
 ·have hk':k<ts.length:=by omega
  refine bm hI h cb g9 hk' (fun _ _=>RdT.length) fun cs hcs=>?_
  have hb:=kG ts[k] l' hl0
  refine Run.callPure jW jQ hI (ih _ (List.getElem_mem _) S cs l' hcs hl0 (by omega)) fun w' hI=>?_
  have hstep:szL (ts.drop k) l'=if szT ts[k] l'<0 then -1 else szL (ts.drop (k+1)) (szT ts[k] l'):=by
   rw [List.drop_eq_getElem_cons hk',szL]
  refine aZ ?_
  refine aP (fun hneg=>?_) (fun hneg=>?_)
  ·exact ae hI (by rw [tc,if_neg hlt,<- hrel,hstep,if_pos hneg])
  ·refine br (by omega) ?_
   refine ⟨⟨k+1,_,hk',rfl,rfl,by omega,by omega,?_,hI⟩,by simp [intOf]; omega⟩
   rw [<- hrel,hstep,if_neg hneg]
 ·have:k=ts.length:=by omega
  subst this
  exact ae hI (by rw [tc,if_neg hlt,<- hrel,List.drop_length,szL])

theorem n8:∀ (t:T) (S:ab) (cs:List Value) (left:Int),RdT S cs t->0<=left->left<=4611686018427387904->
  Pure Tryz.prog kT [.agg cs.toArray,.int .i64 left] S (.int .i64 (szT t left)):=by
 refine T.ind fun k n s ks ih S cs left h h0 h1=>?_
 intro w hI
 obtain ⟨kv,rfl,_,_,hs,hks⟩:=RdT.iff.1 h
 simp only [T.name,T.kids,T.kind,T.n] at hs hks ⊢
 simp only [maxLen] at hs
 have hlen:(ks.length:Int)<=9223372036854775807:=by have:=hks.le; simp only [maxLen] at this; omega
 refine jp.2 ?_
 dsimp only[jp,aC]
 refine aG hI fun b w' hI=>?_
 refine aa hI 0 rfl kO al rfl ?_
 refine dd aw ?_
 refine fG (by omega) ?_
 refine aZ ?_
 refine aP (fun hlt=>?_) (fun hlt=>?_)
 ·exact ae hI (by rw [szT,if_pos hlt])
 refine aa hI 0 rfl lH mV rfl ?_
 refine Run.callPure nm nZ hI (pO ih hks (by omega) (by omega)) fun w' hI=>?_
 refine aZ ?_
 refine aP (fun hneg=>?_) (fun hneg=>?_)
 ·refine ae hI ?_
  rw [szT,if_neg hlt]
  unfold tc at hneg
  split
  ·rfl
  ·rename_i h3
   rw [if_neg h3] at hneg
   have:=pZ ks (left - s.size - ks.length) (by omega)
   congr 1; omega
 ·refine ae hI ?_
  rw [szT,if_neg hlt]
  rfl
end
section
open Go Go.RowKit
attribute [local irreducible] Run CondV ah ax

mutual
def eqT:T->T->Bool
 | .mk k n s ks,.mk k' n' s' ks'=>decide (k=k') && (decide (n=n') && (decide (s=s') && eqL ks ks'))
def eqL:List T->List T->Bool
 | [],[]=>true
 | t::ts,u::us=>eqT t u && eqL ts us
 | _,_=>false
end
mutual
theorem rj:∀ a b:T,eqT a b=true↔a=b
 | .mk k n s ks,.mk k' n' s' ks'=>by
  simp only [eqT,Bool.and_eq_true,decide_eq_true_eq,oc ks ks',T.mk.injEq]
theorem oc:∀ a b:List T,eqL a b=true↔a=b
 | [],[]=>by simp [eqL]
 | [],_::_=>by simp [eqL]
 | _::_,[]=>by simp [eqL]
 | t::ts,u::us=>by
  simp only [eqL,Bool.and_eq_true,rj t u,oc ts us,List.cons.injEq]
end
theorem tS:∀ {a b:List T},a.length≠b.length->eqL a b=false:=by
 intro a b h
 rw [<- Bool.not_eq_true,oc]
 rintro rfl
 exact h rfl
theorem p8 {xs:List T} (ih:∀ t∈xs,∀ (u:T) (S:ab) (cs ds:List Value),RdT S cs t->RdT S ds u->Pure Tryz.prog lF [.agg cs.toArray,.agg ds.toArray] S (.bool (eqT t u)))
  {ys:List T} {S:ab} {v u:Value} (h:RdSl S 4 (RdT S) v xs) (h':RdSl S 4 (RdT S) u ys):Pure Tryz.prog pD [v,u] S (.bool (eqL xs ys)):=by
 intro w hI
 have hlen:(xs.length:Int)<=9223372036854775807:=by have:=h.le; simp only [maxLen] at this; omega
 refine iw.2 ?_
 dsimp only[iw,aC]
 refine az h ag ?_
 refine az h' ag ?_
 refine mK ?_
 refine ak (fun hne=>?_) (fun he=>?_)
 ·exact ae hI (by rw [tS (by simp at hne; omega)])
 have he:xs.length=ys.length:=by simp at he; omega
 refine ⟨fun i w'=>∃ (k:Nat),k<=xs.length/\i=.int .i64 k/\eqL (xs.drop k) (ys.drop k)=eqL xs ys/\Inv w [] [] S w',fun i _=>xs.length - (intOf i).toNat,⟨0,Nat.zero_le _,rfl,rfl,hI⟩,?_⟩
 intro t5 _ _ _ _ _ _ _ _ _ _ _ _ _ _ _ _ _ w'
 rintro ⟨k,hk,rfl,hrel,hI⟩
 refine az h ag ?_
 refine aZ ?_
 refine aP (fun hki=>?_) (fun hki=>?_)
 ·have hk1:k<xs.length:=by omega
  have hk2:k<ys.length:=by omega
  obtain ⟨b1,o1,cap1,c1,E1,fz1,rfl,hS1,hR1⟩:=h.at_ hk1
  obtain ⟨b2,o2,cap2,c2,E2,fz2,rfl,hS2,hR2⟩:=h'.at_ hk2
  have hstep:eqL (xs.drop k) (ys.drop k)=(eqT xs[k] ys[k] && eqL (xs.drop (k+1)) (ys.drop (k+1))):=by
   rw [List.drop_eq_getElem_cons hk1,List.drop_eq_getElem_cons hk2,eqL]
  refine ⟨fun D pt oJ ri sq sY tZ uf ud u5 uW w_=>Fx D 0 [uW=.slice (some ⟨b1,o1,none⟩) xs.length cap1,u5=.int .i64 k,ud=.pointer (some ⟨b1,o1+k * 4,none⟩),uf=.agg (aF c1 (o1+k * 4) 4).toArray,tZ=.slice (some ⟨b2,o2,none⟩) ys.length cap2,sY=.int .i64 k,sq=.pointer (some ⟨b2,o2+k * 4,none⟩),ri=.agg (aF c2 (o2+k * 4) 4).toArray,oJ=.bool (eqT xs[k] ys[k]),pt=.bool (!eqT xs[k] ys[k])]/\Inv w [] [] S w_,⟨Fx.nil _ _,hI.draw⟩,⟨?_,?_,?_,?_,?_,?_,?_,?_,?_,?_,trivial⟩,?_⟩
  all_goals (intro D uz; intros; rename_i pt oJ ri sq sY tZ uf ud u5 uW w_ hA_; have hF_:=hA_.1; obtain ⟨⟨kA,kL,k0,lK,lP,mI,mS,nI,qo,tR,_⟩,hI⟩:=hA_)
  ·exact ⟨hF_.set 0 rfl,hI⟩
  ·exact ⟨hF_.set 1 rfl,hI⟩
  ·obtain rfl:=kA ‹_›
   obtain rfl:=kL ‹_›
   refine bd ag hk1 ?_
   exact ⟨hF_.set 2 rfl,hI⟩
  ·obtain rfl:=k0 ‹_›
   refine cj ac hR1.length (fun j v hj=>by rw [hI.cellS hS1]; exact bb rfl j v hj) ?_
   exact ⟨hF_.set 3 rfl,hI⟩
  ·exact ⟨hF_.set 4 rfl,hI⟩
  ·exact ⟨hF_.set 5 rfl,hI⟩
  ·obtain rfl:=lP ‹_›
   obtain rfl:=mI ‹_›
   refine bd ag hk2 ?_
   exact ⟨hF_.set 6 rfl,hI⟩
  ·obtain rfl:=mS ‹_›
   refine cj ac hR2.length (fun j v hj=>by rw [hI.cellS hS2]; exact bb rfl j v hj) ?_
   exact ⟨hF_.set 7 rfl,hI⟩
  ·obtain rfl:=lK ‹_›
   obtain rfl:=nI ‹_›
   refine Run.callPure jA jx hI (ih _ (List.getElem_mem hk1) _ S _ _ hR1 hR2) fun w_ hI=>?_
   exact ⟨hF_.set 8 rfl,hI⟩
  ·obtain rfl:=qo ‹_›
   refine bv ?_
   exact ⟨hF_.set 9 rfl,hI⟩
  obtain ⟨rfl,rfl,rfl,rfl,rfl,rfl,rfl,rfl,rfl,rfl,_⟩:=hF_.all
  clear hF_ kA kL k0 lK lP mI mS nI qo tR
  refine ak (fun hne=>?_) (fun he'=>?_)
  ·exact ae hI (by rw [<- hrel,hstep]; simp at hne; rw [hne]; rfl)
  ·refine br (by omega) ?_
   refine ⟨⟨k+1,hk1,rfl,?_,hI⟩,by simp [intOf]; omega⟩
   rw [<- hrel,hstep]
   simp at he'
   rw [he',Bool.true_and]
 ·have:k=xs.length:=by omega
  subst this
  refine ae hI ?_
  rw [<- hrel,List.drop_length,he,List.drop_length]
  rfl
theorem nq:∀ (t u:T) (S:ab) (cs ds:List Value),RdT S cs t->RdT S ds u->Pure Tryz.prog lF [.agg cs.toArray,.agg ds.toArray] S (.bool (eqT t u)):=by
 refine T.ind fun k n s ks ih u S cs ds h h'=>?_
 intro w hI
 obtain ⟨kv,rfl,_,_,_,hks⟩:=RdT.iff.1 h
 obtain ⟨kv',rfl,_,_,_,hks'⟩:=RdT.iff.1 h'
 obtain ⟨k',n',s',ks'⟩:=u
 simp only [T.name,T.kids,T.kind,T.n] at hks hks' ⊢
 refine jM.2 ?_
 dsimp only[jM,aC]
 refine aG hI fun b1 w' hI=>?_
 refine aG hI fun b2 w' hI=>?_
 refine aa hI 0 rfl aB ar rfl ?_
 refine aa hI 1 rfl aB ar rfl ?_
 refine mK ?_
 refine ak (fun hne=>ae hI ?_) (fun e1=>?_)
 ·simp at hne; simp [eqT,hne]
 refine aa hI 0 rfl aR ar rfl ?_
 refine aa hI 1 rfl aR ar rfl ?_
 refine mK ?_
 refine ak (fun hne=>ae hI ?_) (fun e2=>?_)
 ·simp at hne; simp [eqT,hne]
 refine aa hI 0 rfl ai al rfl ?_
 refine aa hI 1 rfl ai al rfl ?_
 refine sD ?_
 refine ak (fun hne=>ae hI ?_) (fun e3=>?_)
 ·simp at hne; simp [eqT,hne]
 refine aa hI 0 rfl af aj rfl ?_
 refine aa hI 1 rfl af aj rfl ?_
 refine Run.callPure oa nz hI (p8 ih hks hks') fun w' hI=>?_
 refine bv ?_
 simp at e1 e2 e3
 refine ak (fun hne=>ae hI ?_) (fun e4=>ae hI ?_)
 ·simp at hne; simp [eqT,hne]
 ·simp at e4; simp [eqT,e1,e2,e3,e4]
end
section
open Go Go.RowKit
attribute [local irreducible] Run CondV ah ax

mutual
theorem uc:∀ (t:T) (left:Int),0<=left->0<=szT t left->szT t left+wT t<=left
 | .mk k n s ks,left,h,h2=>by
  simp only [szT] at h2 ⊢
  rw [wT]
  split at h2
  ·omega
  ·rename_i h3
   rw [if_neg h3]
   split at h2
   ·omega
   ·rename_i h4
    rw [if_neg h4]
    have:=uj ks _ (by omega) h2
    omega
theorem uj:∀ (ts:List T) (left:Int),0<=left->0<=szL ts left->szL ts left+wL ts<=left
 | [],left,h,h2=>by simp [szL,wL]
 | t::ts,left,h,h2=>by
  simp only [szL] at h2 ⊢
  rw [wL]
  split at h2
  ·omega
  ·rename_i h3
   rw [if_neg h3]
   have h4:=uc t left h (by omega)
   have h5:=uj ts _ (by omega) h2
   omega
end
theorem Run.toTerm {w w0:World} {X:List Nat} {L:List Item} {S:ab} {K:Value->World->Prop} {t:T} {cs:List Value} (hI:Inv w0 X L S w) (h:RdT S cs t) (hw:wT t<=1048576)
  (hk:∀ cs' S' w',Sle S S'->RdT S' cs' t->Inv w0 X L S' w'->K (.agg cs'.toArray) w'):Run Tryz.prog (bB (.func (.func f5) #[] #[]) [.agg cs.toArray]) w K:=by
 refine Run.call0 e8 eI hI (d9 _ S _ h hw) fun v' I' S' w'=>?_
 rintro ⟨rfl,cs',M,rfl,rfl,hT⟩ _ hI
 obtain ⟨S2,hI,hle,hins,_⟩:=Inv.publishAll M hI
 exact hk _ _ _ hle (hT.rd hins) hI
theorem Run.toTermS {w w0:World} {X:List Nat} {L:List Item} {S:ab} {K:Value->World->Prop} {p:List T} {v:Value} (hI:Inv w0 X L S w) (h:RdSl S 4 (RdT S) v p) (hw:p.length+wL p<=1048576)
  (hk:∀ v' S' w',Sle S S'->RdSl S' 4 (RdT S') v' p->Inv w0 X L S' w'->K v' w'):Run Tryz.prog (bB (.func (.func fb) #[] #[]) [v]) w K:=by
 refine Run.call0 gY gH hI (me h hw) fun v' I' S' w'=>?_
 rintro ⟨rfl,M,rfl,hT⟩ _ hI
 obtain ⟨S2,hI,hle,hins,_⟩:=Inv.publishAll M hI
 exact hk _ _ _ hle (hT.rd hins fun _ _ _ hi h=>h.rd hi) hI
end
section
open Go Go.RowKit
section
variable {P:Program} {w w0:World} {X:List Nat} {L:List Item} {S:ab} {K:Value->World->Prop}
attribute [local irreducible] Run CondV ah ax
end

section
attribute [local irreducible] Run CondV ah ax
end
end
section
open Go Go.RowKit

theorem Part.upd {α:Type} {k:Nat} {R:aq->List Value->α->Prop} {c c':Array Value} {Ls:List aq} {xs:List α} (h:Part k R c Ls xs) {i:Nat} {L':aq} {x:α} (hx:R L' (aF c' (i * k) k) x)
  (hne:∀ j,j≠i->aF c' (j * k) k=aF c (j * k) k):Part k R c' (Ls.set i L') (xs.set i x):=by
 refine ⟨by simp [h.1],fun j h1 h2=>?_⟩
 by_cases e:i=j
 ·subst e
  rw [List.getElem_set_self,List.getElem_set_self]
  exact hx
 ·rw [List.getElem_set_ne e,List.getElem_set_ne e,hne j fun e'=>e e'.symm]
  exact h.2 j (by simpa using h1) (by simpa using h2)
section
attribute [local irreducible] Run CondV ah ax
end
end
section
open Go Go.RowKit

section
attribute [local irreducible] Run CondV ah ax
theorem TrC.parts {L:aq} {cs:List Value} {c:C} (h:TrC L cs c):∃ kv ks L1 L2,cs=[.int .i64 c.head.kind,.int .i64 c.head.n,.string c.head.name,kv,ks]/\L=L1++L2/\TrSl 4 TrT L1 kv c.head.kids/\TrSl 4 TrT L2 ks c.body:=by
 obtain ⟨hd,ks,L1,L2,rfl,rfl,h1,h2⟩:=h
 obtain ⟨kv,rfl,_,_,_,hkT⟩:=TrT.iff.1 h1
 exact ⟨kv,ks,L1,L2,rfl,rfl,hkT,h2⟩
end
end
section
open Go Go.RowKit

section
attribute [local irreducible] Run CondV ah ax
end
end
section
open Go Go.RowKit

section
variable {w:World} {K:Value->World->Prop}
attribute [local irreducible] Run
end

attribute [local irreducible] Run CondV ah ax
structure Pd where
 name:ByteArray
 arity:Int
deriving DecidableEq
def Pd.cells (x:Pd):List Value:=[.string x.name,.int .i64 x.arity]
end
section
open Go Go.RowKit
attribute [local irreducible] Run CondV ah ax
end
section
open Go Go.RowKit
attribute [local irreducible] Run CondV ah ax
end
section
open Go Go.RowKit

theorem Inv.openRow {w0 w:World} {X:List Nat} {A:List Item} {S:ab} {v:Value} {e:TypeId} {k n:Nat} {xs:List Value} (h:Inv w0 X (A++[.row v e k n xs]) S w) :
  xs.length=n * k/\((v=.slice none 0 0/\n=0) ∨ ∃ g cap cur,v=.slice (some ⟨g,0,none⟩) n cap/\n<=cap/\cap<=maxLen/\cur.size=cap * k/\cur.toList.take (n * k)=xs/\Inv w0 X (A++[.blk g (.cells cur e)]) S w):=by
 have hm:w.ownsRow 0 e k v n xs:=h.its (.row v e k n xs) (by simp)
 obtain ⟨hl,hm⟩:=hm
 refine ⟨hl,?_⟩
 rcases hm with hn|⟨g,cap,cur,rfl,_,hg,hnc,hcm,hcs,ht⟩
 ·exact .inl hn
 ·have hf:aH (A++[Item.blk g (.cells cur e)])=aH (A++[Item.row (.slice (some ⟨g,0,none⟩) n cap) e k n xs]):=by
   simp [aH,Item.foot,Value.ownBlock]
  refine .inr ⟨g,cap,cur,rfl,hnc,hcm,hcs,ht,h.size,h.os,h.tape,h.output,h.old,fun it hit=>?_,by rw [hf]; exact h.nd,by rw [hf]; exact h.new,by rw [hf]; exact h.pub⟩
  rcases List.mem_append.1 hit with hit|hit
  ·exact h.its it (List.mem_append_left _ hit)
  ·simp at hit
   subst hit
   exact hg
section
attribute [local irreducible] Run CondV ah ax
end
end
section
open Go Go.RowKit

structure Grown {α:Type} (k:Nat) (R:aq->List Value->α->Prop) (Ls:List aq) (css:List (List Value)) (ys:List α):Prop where
 hL:Ls.length=ys.length
 hc:css.length=ys.length
 hk:∀ cs∈css,cs.length=k
 hR:∀ i (h:i<ys.length) (h1:i<Ls.length) (h2:i<css.length),R Ls[i] css[i] ys[i]
theorem Grown.nil {α:Type} (k:Nat) (R:aq->List Value->α->Prop):Grown k R [] [] ([]:List α):=⟨rfl,rfl,by simp,fun i h=>by simp at h⟩
theorem Grown.snoc {α:Type} {k:Nat} {R:aq->List Value->α->Prop} {Ls:List aq} {css:List (List Value)} {ys:List α} (h:Grown k R Ls css ys) {L:aq} {cs:List Value} {y:α} (hR:R L cs y) (hl:cs.length=k) :
  Grown k R (Ls++[L]) (css++[cs]) (ys++[y]):=by
 refine ⟨by simp [h.hL],by simp [h.hc],fun c hc=>?_,fun i h0 h1 h2=>?_⟩
 ·rcases List.mem_append.1 hc with hc|hc
  ·exact h.hk c hc
  ·simp at hc; subst hc; exact hl
 ·have e1:=h.hL
  have e2:=h.hc
  by_cases hi:i<ys.length
  ·rw [List.getElem_append_left (by omega),List.getElem_append_left (by omega),List.getElem_append_left hi]
   exact h.hR i hi (by omega) (by omega)
  ·have:i=ys.length:=by simp at h0; omega
   subst this
   rw [List.getElem_append_right (by omega),List.getElem_append_right (by omega),List.getElem_append_right (by omega)]
   simp only [e1,e2,Nat.sub_self,List.getElem_cons_zero]
   exact hR
theorem ll (k:Nat):∀ (css:List (List Value)) (i:Nat) (_:∀ cs∈css,cs.length=k) (h:i<css.length),(css.flatten.drop (i * k)).take k=css[i]
 | [],i,_,h=>by simp at h
 | c::css,0,hk,_=>by
  have:=hk c (List.mem_cons_self ..)
  rw [List.flatten_cons,Nat.zero_mul,List.drop_zero,List.take_append_of_le_length (by omega),List.take_of_length_le (by omega)]
  rfl
 | c::css,i+1,hk,h=>by
  have:=hk c (List.mem_cons_self ..)
  rw [List.flatten_cons,Nat.succ_mul,Nat.add_comm,<- List.drop_drop,List.drop_left' this]
  exact ll k css i (fun cs hc=>hk cs (List.mem_cons_of_mem _ hc)) (by simpa using h)
abbrev iH (v:Value) (e:TypeId) (k:Nat) (css:List (List Value)):Item:=.row v e k css.length css.flatten
theorem mZ (v:Value) (e:TypeId) (k:Nat) (css:List (List Value)) (cs:List Value):Item.row v e k (css.length+1) (css.flatten++cs)=iH v e k (css++[cs]):=by
 simp [iH]
section
variable {P:Program} {w w0:World} {X:List Nat} {L:List Item} {S:ab} {K:Value->World->Prop}
attribute [local irreducible] Run CondV ah ax
theorem rr (h:Inv w0 X L S w) {T ty e:TypeId} {k by_:Nat} {z v:Value} {cs:List Bool} {css:List (List Value)} (i:Nat) (xs:List Value)
  (hT:iW P T=some (e,k,by_,z)) (hk0:0<k) (hk24:k<=65536) (hi:L[i]?=some (iH v e k css)) (hl:xs.length=k) (h1:∀ u∈xs,u.oneCell'=true) (hfit:css.length+1<=4294967296) (hby:by_<=32768)
  {K:Value->Value->World->Prop} (hk:∀ v' w',Inv w0 X (L.set i (iH v' e k (css++[xs]))) S w'->K (.slice (some ⟨w.heap.size,0,none⟩) 1 1) v' w') :
  Run P (aI T 1 [(0,.agg xs.toArray)]) w fun u w'=>Run P (aO .append #[T,T] ty cs [v,u]) w' (K u):=by
 refine iG h hT (by simp [Value.cells,hl]) hk24 hk0 fun w' hI=>?_
 have hil:i<L.length:=(List.getElem?_eq_some_iff.1 hi).1
 refine og hI i xs hT hk0 (by rw [List.getElem?_append_left hil]; exact hi) (by omega) (m:=1) (o:=0) ?_ h1 hfit hby fun v' w' hI=>?_
 ·intro j u hj
  rw [hI.cellL (i:=L.length) (by rw [List.getElem?_append_right (Nat.le_refl _),Nat.sub_self]; rfl)]
  rw [Nat.zero_add]
  simpa [Value.cells] using hj
 ·refine hk _ _ ?_
  rw [<- mZ]
  rw [List.set_append_left _ _ hil] at hI
  exact hI.sub (List.sublist_append_left _ _)
end

section
attribute [local irreducible] Run CondV ah ax
end
end
section
open Go Go.RowKit
section
variable {w:World} {K:Value->World->Prop}
attribute [local irreducible] Run
end
section
attribute [local irreducible] Run CondV ah ax
end
end
section
open Go Go.RowKit
theorem RdC.one {S:ab} {cs:List Value} {c:C} (h:RdC S cs c):∀ u∈cs,u.oneCell'=true:=by
 obtain ⟨hd,ks,rfl,h1,a,cap,rfl,_⟩:=h
 intro u hu
 rcases List.mem_append.1 hu with hu|hu
 ·exact h1.one u hu
 ·simp at hu; subst hu; rfl
section
attribute [local irreducible] Run CondV ah ax
end
end
section
open Go Go.RowKit
section
attribute [local irreducible] Run CondV ah ax
end
end
section
open Go Go.RowKit
section
variable {P:Program} {w w0:World} {X:List Nat} {L:List Item} {S:ab} {K:Value->World->Prop}
end
end
section
open Go Go.RowKit

structure Rows {α:Type} (k:Nat) (R:List Value->α->Prop) (css:List (List Value)) (ys:List α):Prop where
 hc:css.length=ys.length
 hk:∀ cs∈css,cs.length=k
 hR:∀ i (h:i<ys.length) (h1:i<css.length),R css[i] ys[i]
theorem Rows.nil {α:Type} (k:Nat) (R:List Value->α->Prop):Rows k R [] ([]:List α):=⟨rfl,by simp,fun i h=>by simp at h⟩
theorem Rows.snoc {α:Type} {k:Nat} {R:List Value->α->Prop} {css:List (List Value)} {ys:List α} (h:Rows k R css ys) {cs:List Value} {y:α} (hR:R cs y) (hl:cs.length=k):Rows k R (css++[cs]) (ys++[y]):=by
 refine ⟨by simp [h.hc],fun c hc=>?_,fun i h0 h2=>?_⟩
 ·rcases List.mem_append.1 hc with hc|hc
  ·exact h.hk c hc
  ·simp at hc; subst hc; exact hl
 ·have e2:=h.hc
  by_cases hi:i<ys.length
  ·rw [List.getElem_append_left (by omega),List.getElem_append_left hi]
   exact h.hR i hi (by omega)
  ·have:i=ys.length:=by simp at h0; omega
   subst this
   rw [List.getElem_append_right (by omega),List.getElem_append_right (by omega)]
   simp only [e2,Nat.sub_self,List.getElem_cons_zero]
   exact hR
theorem Rows.append {α:Type} {k:Nat} {R:List Value->α->Prop} {css css':List (List Value)} {ys ys':List α} (h:Rows k R css ys) (h':Rows k R css' ys'):Rows k R (css++css') (ys++ys'):=by
 have e:=h.hc
 have e':=h'.hc
 refine ⟨by simp [e,e'],fun c hc=>?_,fun i h0 h2=>?_⟩
 ·rcases List.mem_append.1 hc with hc|hc
  ·exact h.hk c hc
  ·exact h'.hk c hc
 ·by_cases hi:i<ys.length
  ·rw [List.getElem_append_left (by omega),List.getElem_append_left hi]
   exact h.hR i hi (by omega)
  ·have hi':i - css.length<ys'.length:=by simp at h0; omega
   rw [List.getElem_append_right (by omega),List.getElem_append_right (by omega)]
   have:=h'.hR (i - css.length) hi' (by omega)
   simpa only [e] using this
theorem RowRd.rows {α:Type} {S:ab} {v:Value} {e:TypeId} {k:Nat} {R:List Value->α->Prop} {css:List (List Value)} {ys:List α} (hr:Rows k R css ys) (h:RowRd S v e k css.length css.flatten):RdSl S k R v ys:=by
 obtain ⟨hl,h⟩:=h
 have hcy:=hr.hc
 rcases h with ⟨rfl,h0⟩|⟨g,cap,cur,rfl,hS,hnc,hcm,hcs,ht⟩
 ·have:ys=[]:=List.eq_nil_of_length_eq_zero (by omega)
  subst this
  exact ⟨none,0,rfl,Nat.le_refl _,Nat.zero_le _,.inl rfl⟩
 ·refine ⟨_,cap,by rw [hcy],by omega,hcm,.inr ⟨g,0,cur,e,(0,0),rfl,hS,fun i hi=>?_⟩⟩
  have:=ll k css i hr.hk (by omega)
  have hik:i * k+k<=css.length * k:=by rw [<- Nat.succ_mul]; exact Nat.mul_le_mul_right k (by omega)
  rw [<- ht,List.drop_take,List.take_take,Nat.min_eq_left (by omega)] at this
  rw [aF,Nat.zero_add,this]
  exact hr.hR i hi (by omega)
section
variable {P:Program} {w w0:World} {X:List Nat} {L:List Item} {S:ab} {K:Value->World->Prop}
attribute [local irreducible] Run CondV ah ax
end
end
section
open Go Go.RowKit

section
variable {P:Program} {w:World} {K:Value->World->Prop}
attribute [local irreducible] Run
end
theorem RdSl.to {α:Type} {S:ab} {k:Nat} {R:List Value->α->Prop} {a:Option Addr} {cap n h:Nat} {xs:List α} (hx:RdSl S k R (.slice a n cap) xs) (hh:h<=xs.length) :
  RdSl S k R (.slice (if cap=0 then a else a.map (·.add (0 * k))) h cap) (xs.take h):=by
 obtain ⟨a',cap',e,hl,hc,hx⟩:=hx
 simp only [Value.slice.injEq] at e
 obtain ⟨rfl,rfl,rfl⟩:=e
 have e1:(if cap=0 then a else a.map (·.add (0 * k)))=a:=by
  split
  ·rfl
  ·cases a <;> simp [Addr.add]
 rw [e1]
 have e2:h=(xs.take h).length:=by rw [List.length_take]; omega
 refine ⟨a,cap,by rw [<- e2],by omega,hc,?_⟩
 rcases hx with rfl|⟨b,o,c,E,fz,rfl,hS,hR⟩
 ·left; simp
 ·right
  refine ⟨b,o,c,E,fz,rfl,hS,fun i hi=>?_⟩
  rw [List.getElem_take]
  exact hR i (by omega)
theorem RdSl.from {α:Type} {S:ab} {k:Nat} {R:List Value->α->Prop} {a:Option Addr} {cap n l:Nat} {xs:List α} (hx:RdSl S k R (.slice a n cap) xs) (hl:l<=xs.length) :
  RdSl S k R (.slice (if cap=l then a else a.map (·.add (l * k))) (n - l) (cap - l)) (xs.drop l):=by
 obtain ⟨a',cap',e,hlc,hc,hx⟩:=hx
 simp only [Value.slice.injEq] at e
 obtain ⟨rfl,rfl,rfl⟩:=e
 refine ⟨_,cap - l,by rw [List.length_drop],by rw [List.length_drop]; omega,by omega,?_⟩
 by_cases hd:xs.drop l=[]
 ·exact .inl hd
 ·rcases hx with rfl|⟨b,o,c,E,fz,rfl,hS,hR⟩
  ·simp at hd
  ·right
   have hlt:l<xs.length:=by
    rcases Nat.lt_or_ge l xs.length with h|h
    ·exact h
    ·exact absurd (List.drop_eq_nil_of_le h) hd
   refine ⟨b,o+l * k,c,E,fz,?_,hS,fun i hi=>?_⟩
   ·rw [if_neg (by omega)]
    simp [Addr.add]
   ·rw [List.getElem_drop]
    have:=hR (l+i) (by simp at hi; omega)
    rwa [Nat.add_mul,<- Nat.add_assoc] at this
section
variable {P:Program} {w w0:World} {X:List Nat} {L:List Item} {S:ab} {K:Value->World->Prop}
attribute [local irreducible] Run CondV ah ax
end
theorem RdSl.exact {α:Type} {S:ab} {k:Nat} {R:List Value->α->Prop} {v:Value} {ys:List α} (h:RdSl S k R v ys) (hk:∀ cs y,R cs y->cs.length=k) :
  ∃ ds:List {cs:List Value // cs.length=k},RdSl S k (fun cs d=>cs=d.val) v ds/\Rows k R (ds.map (·.val)) ys:=by
 obtain ⟨a,cap,rfl,hl,hc,hx⟩:=h
 rcases hx with rfl|⟨b,o,c,E,fz,rfl,hS,hR⟩
 ·exact ⟨[],⟨a,cap,rfl,hl,hc,.inl rfl⟩,Rows.nil _ _⟩
 ·refine ⟨List.ofFn fun i:Fin ys.length=>⟨aF c (o+i.val * k) k,hk _ _ (hR i.val i.isLt)⟩,⟨_,cap,by rw [List.length_ofFn],by rw [List.length_ofFn]; exact hl,hc,.inr ⟨b,o,c,E,fz,rfl,hS,fun i hi=>by simp⟩⟩,⟨by simp,fun cs hcs=>?_,fun i h1 h2=>?_⟩⟩
  ·obtain ⟨d,_,rfl⟩:=List.mem_map.1 hcs
   exact d.property
  ·simp only [List.getElem_map,List.getElem_ofFn]
   exact hR i h1
section
variable {P:Program} {w w0:World} {X:List Nat} {L:List Item} {S:ab} {K:Value->World->Prop}
attribute [local irreducible] Run CondV ah ax
end
end
section
open Go Go.RowKit
section
variable {P:Program} {w w0:World} {X:List Nat} {L:List Item} {S:ab} {K:Value->World->Prop}
theorem qE {T:TypeId} {cx cy:Bool} {k:IntKind} {a b:Int} (h:a<b) (hk:K (.bool true) w):Run P (a7 .lss T cx cy (.int k a) (.int k b)) w K:=by
 refine aZ ?_
 rw [decide_eq_true h]
 exact hk
theorem iI {T:TypeId} {cx cy:Bool} {k:IntKind} {a b:Int} (h:¬ (a<b)) (hk:K (.bool false) w):Run P (a7 .lss T cx cy (.int k a) (.int k b)) w K:=by
 refine aZ ?_
 rw [decide_eq_false h]
 exact hk
theorem qn {T:TypeId} {cx cy:Bool} {k:IntKind} {a b:Int} (h:a<=b) (hk:K (.bool true) w):Run P (a7 .leq T cx cy (.int k a) (.int k b)) w K:=by
 refine c7 ?_
 rw [decide_eq_true h]
 exact hk
theorem pI {T:TypeId} {cx cy:Bool} {k:IntKind} {a b:Int} (h:¬ (a<=b)) (hk:K (.bool false) w):Run P (a7 .leq T cx cy (.int k a) (.int k b)) w K:=by
 refine c7 ?_
 rw [decide_eq_false h]
 exact hk
theorem s4 {T:TypeId} {cx cy:Bool} {k:IntKind} {a b:Int} (h:b<a) (hk:K (.bool true) w):Run P (a7 .gtr T cx cy (.int k a) (.int k b)) w K:=by
 refine cA ?_
 rw [decide_eq_true h]
 exact hk
theorem qz {T:TypeId} {cx cy:Bool} {k:IntKind} {a b:Int} (h:¬ (b<a)) (hk:K (.bool false) w):Run P (a7 .gtr T cx cy (.int k a) (.int k b)) w K:=by
 refine cA ?_
 rw [decide_eq_false h]
 exact hk
theorem eY {T:TypeId} {cx cy:Bool} {k:IntKind} {a b:Int} (h:b<=a) (hk:K (.bool true) w):Run P (a7 .geq T cx cy (.int k a) (.int k b)) w K:=by
 refine et ?_
 rw [decide_eq_true h]
 exact hk
theorem iO {T:TypeId} {cx cy:Bool} {k:IntKind} {a b:Int} (h:¬ (b<=a)) (hk:K (.bool false) w):Run P (a7 .geq T cx cy (.int k a) (.int k b)) w K:=by
 refine et ?_
 rw [decide_eq_false h]
 exact hk
theorem bA {T:TypeId} {cx cy:Bool} {k:IntKind} {a b:Int} (h:a=b) (hk:K (.bool true) w):Run P (a7 .eql T cx cy (.int k a) (.int k b)) w K:=by
 refine a6 ?_
 rw [decide_eq_true h]
 exact hk
theorem bk {T:TypeId} {cx cy:Bool} {k:IntKind} {a b:Int} (h:¬ (a=b)) (hk:K (.bool false) w):Run P (a7 .eql T cx cy (.int k a) (.int k b)) w K:=by
 refine a6 ?_
 rw [decide_eq_false h]
 exact hk
theorem uq {T:TypeId} {cx cy:Bool} {a b:Nat} (hb:0<b) (ha:a<=9223372036854775807) (hk:K (.int .i64 ((a / b:Nat):Int)) w):Run P (a7 .quo T cx cy (.int .i64 (a:Int)) (.int .i64 (b:Int))) w K:=by
 refine Run.of ?_ hk
 have h0:¬ ((b:Int)=0):=by omega
 have h1:IntKind.i64.wrap ((a:Int).tdiv b)=((a / b:Nat):Int):=by
  rw [IntWalk.i64_quo _ _ (by omega)]; rfl
 simp only [a7,ba,binOp,Op.intDiv,Sem.run_bind,Result.andThen_ok,if_neg h0,Sem.run_pure]
 exact congrArg (fun v=>Result.ok (Next.value (.int .i64 v)) w) h1
theorem uJ {T:TypeId} {cx cy:Bool} {a b:Nat} (hb:0<b) (hk:K (.int .i64 ((a % b:Nat):Int)) w):Run P (a7 .rem T cx cy (.int .i64 (a:Int)) (.int .i64 (b:Int))) w K:=by
 refine Run.of ?_ hk
 have h1:(a:Int).tmod b=((a % b:Nat):Int):=by
  rw [IntWalk.rem_in _ _ (by omega)]; rfl
 have h0:¬ ((b:Int)=0):=by omega
 simp only [a7,ba,binOp,Op.intDiv,Sem.run_bind,Result.andThen_ok,if_neg h0,Sem.run_pure]
 exact congrArg (fun v=>Result.ok (Next.value (.int .i64 v)) w) h1
theorem ut {T:TypeId} {cx cy:Bool} {k:IntKind} {a b c:Int} (hr:k.wrap (a+b)=c) (hk:K (.int k c) w):Run P (a7 .add T cx cy (.int k a) (.int k b)) w K:=
 Run.of (by simp [a7,ba,binOp,Op.intArith,hr]) hk
theorem nk {src dst ty:TypeId} {k k':IntKind} {n m:Int} {d:TypeDesc} (hs:P.underlying src=some d) (hd:P.underlying dst=some (.int k')) (hr:k'.wrap n=m) (hk:K (.int k' m) w) :
  Run P (sOp (.convert src dst (.const (.int k n))) ty) w K:=by
 refine Run.of ?_ hk
 simp [sOp,execOp,ev0,evE,convert,run_underlying hs,run_underlying hd,Conv.intToInt,hr]
theorem va {T ty:TypeId} {n:Int} (hr:-9223372036854775808<=-n/\-n<=9223372036854775807) (hk:K (.int .i64 (-n)) w):Run P (sOp (.unOp .neg T (.const (.int .i64 n))) ty) w K:=
 Run.of (by simp [sOp,execOp,ev0,evE,Op.unary,Op.intArith,Int.zero_sub,IntWalk.i64_in _ hr]) hk
theorem uF (a b:Bs):st a++st b=st (a++b):=by
 apply ByteArray.ext
 simp [st]
theorem av {T:TypeId} {cx cy:Bool} {a b:Bs} (hl:a.length+b.length<=9223372036854775807) (hk:K (.string (st (a++b))) w):Run P (a7 .add T cx cy (.string (st a)) (.string (st b))) w K:=by
 refine Run.of ?_ hk
 have h1:¬ (9223372036854775807<(((st a).size+(st b).size:Nat):Int)):=by rw [gn,gn]; omega
 have h2:IntKind.i64.max=9223372036854775807:=by decide
 simp only [a7,binOp,Op.stringOp,Sem.run_bind,fh,Result.andThen_ok,gt_iff_lt,h2,if_neg h1,Sem.run_pure,uF]
theorem cW {T ty:TypeId} {s:Bs} {i:Nat} (hu:P.underlying T=some .string) (hi:i<s.length) (hk:K (.int .u8 s[i].toNat) w) :
  Run P (sOp (.index T (.const (.string (st s))) (.const (.int .i64 i))) ty) w K:=by
 have hi':i<(st s).size:=by rw [gn]; exact hi
 refine cZ hu hi' ?_
 have:(st s)[i]=s[i]:=by simp [st,ByteArray.getElem_eq_getElem_data]
 rw [this]
 exact hk
theorem rW {T ty:TypeId} {cs:List Bool} {s:Bs} (hu:P.underlying T=some .string) (hk:K (.int .i64 s.length) w):Run P (aO .len #[T] ty cs [.string (st s)]) w K:=by
 refine dd hu ?_
 rw [gn]
 exact hk
theorem sd {T:TypeId} {cx cy:Bool} {a b:Bs} (hk:K (.bool (decide (a=b))) w):Run P (a7 .eql T cx cy (.string (st a)) (.string (st b))) w K:=by
 refine aJ ?_
 have:decide (st a=st b)=decide (a=b):=by
  rw [decide_eq_decide]
  exact ⟨fun h=>by rw [<- su a,h,su],fun h=>by rw [h]⟩
 rw [this]
 exact hk
theorem g8 (h:Inv w0 X L S w) {T T' D ty e:TypeId} {by_:Nat} {z:Value} {n:Nat} (hT:iW P T=some (e,1,by_,z)) (he:P.underlying T'=some (.slice e)) (hb:P.underlying e=some (.int .u8)) (hD:P.underlying D=some .string)
  {K:Value->Value->World->Prop} (hk:∀ w',Inv w0 X L S w'->K (.slice (some ⟨w.heap.size,0,none⟩) 1 1) (.string (st [UInt8.ofNat n])) w') :
  Run P (aI T 1 [(0,.int .u8 (n:Int))]) w fun u w'=>Run P (sOp (.convert T' D (.const u)) ty) w' (K u):=by
 refine iG h hT rfl (by omega) (by omega) fun w' hI=>?_
 have hi:(L++[Item.blk w.heap.size (.cells (Value.int .u8 (n:Int)).cells e)])[L.length]?=some (.blk w.heap.size (.cells (Value.int .u8 (n:Int)).cells e)):=by
  rw [List.getElem?_append_right (Nat.le_refl _),Nat.sub_self]; rfl
 have hc:w'.cell? ⟨w.heap.size,0,none⟩=some (.int .u8 (n:Int)):=by rw [hI.cellL hi]; rfl
 have hl:=run_loadCells_list (P:=P) (w:=w') ⟨w.heap.size,0,none⟩ [.int .u8 (n:Int)] (fun j v hj=>by
  match j with
  | 0=>simp only [List.getElem?_cons_zero,Option.some.injEq] at hj; subst hj; rw [d2]; exact hc
  | j+1=>simp at hj)
 simp only [List.length_cons,List.length_nil] at hl
 refine Run.of (w':=w') ?_ (hk _ (hI.sub (List.sublist_append_left _ _)))
 simp [sOp,execOp,ev0,evE,convert,run_underlying he,run_underlying hb,run_underlying hD,Conv.bytesToString,hl,st]
 rfl
end
end
section
open Go Go.RowKit
def TabS (S:ab):Prop:=∃ g E fz,Tryz.prog.globalNamed "internal/strconv.uint64pow10" = some g/\S g=some (.cells (Lib.pow10Tab.map fun z=>Value.int .u64 z).toArray E fz)
theorem TabS.mono {S S':ab} (h:TabS S) (hs:Sle S S'):TabS S':=by
 obtain ⟨g,E,fz,hg,hS⟩:=h
 exact ⟨g,E,fz,hg,hs _ _ hS⟩
theorem TabS.is {w w0:World} {X:List Nat} {L:List Item} {S:ab} (h:TabS S) (hI:Inv w0 X L S w):Lib.TabIs Tryz.prog w "internal/strconv.uint64pow10" .u64 Lib.pow10Tab:=by
 obtain ⟨g,E,fz,hg,hS⟩:=h
 unfold Lib.TabIs World.var?
 rw [hg,Option.bind_some,(hI.pub g _ hS).1]
theorem lA:∀ (f n:Nat) (out:Bs),n<10 ^ f->0<f->gK f n out=some (Lib.decDigits n++out)
 | 0,_,_,_,h=>by omega
 | f+1,n,out,hn,_=>by
  rw [gK,Lib.decDigits]
  by_cases h:9<n
  ·rw [if_pos h,dif_neg (by omega)]
   have hf:0<f:=by
    cases f with
    | zero=>simp at hn; omega
    | succ f=>omega
   rw [lA f (n / 10) _ (by rw [Nat.pow_succ] at hn; omega) hf]
   simp
  ·rw [if_neg h,dif_pos (by omega)]
   rfl
theorem rR {n:Int} (h:-999<=n/\n<=999):l6 n=some (Lib.itoa n):=by
 have h20:(1000:Nat)<=10 ^ 20:=by decide
 unfold l6 Lib.itoa
 split
 ·rw [lA 20 _ [] (by omega) (by omega),List.append_nil,show (-n).toNat=n.natAbs by omega]
  rfl
 ·rw [lA 20 _ [] (by omega) (by omega),List.append_nil]
theorem lO:∀ l:List Bs,Lib.join l [44]=bq l
 | []=>rfl
 | [x]=>Lib.join_one _ _
 | x::y::l=>by
  have h:=lO (y::l)
  rw [Lib.join_cons] at h ⊢
  rw [bq,<- h,Lib.joinTail,List.map_cons,List.flatten_cons,<- Lib.joinTail]
  simp
section
variable {S:ab}
attribute [local irreducible] Run CondV ah ax
theorem lE {n:Int} {r:Bs} (hT:TabS S) (h:-999<=n/\n<=999) (hr:l6 n=some r):Pure Tryz.prog iy [.int .i64 n] S (.string (st r)):=by
 intro w hI
 rw [rR h,Option.some.injEq] at hr
 refine Calls.mono (Any.strconv_Itoa uT n (by omega) (by omega) w (hT.is hI)) ?_
 rintro e w' ⟨rfl,k,os,rfl⟩
 exact ⟨by rw [hr],hI.grow ⟨by simp [Sort.grow,World.drewN],rfl,rfl,rfl,fun b hb=>by
  show (w.heap++os)[b]?=_
  rw [Array.getElem?_append_left hb]⟩⟩
theorem pF {v:Value} {xs:List ByteArray} (h:RdSl S 1 j8 v xs) (hne:xs≠[]) (hx:xs.length<=1000000) (hl:(bq (xs.map bs)).length<=1000000) :
  Pure Tryz.prog jb [v,.string (st [44])] S (.string (st (bq (xs.map bs)))):=by
 intro w hI
 obtain ⟨a,cap,rfl,hle,hcm,hc⟩:=h
 rcases hc with hc|⟨b,o,c,E,fz,rfl,hS,hc⟩
 ·exact absurd hc hne
 rw [<- lO] at hl ⊢
 have hcells:∀ (j:Nat) x,xs[j]?=some x->w.cell? ⟨b,o+j,none⟩=some (.string x):=fun j x hj=>by
  obtain ⟨h1,h2⟩:=List.getElem?_eq_some_iff.1 hj
  have:=hc j h1
  rw [h2] at this
  rw [hI.cellS hS]
  unfold j8 aF at this
  have h3:=congrArg (fun l=>l[0]?) this
  simpa using h3
 refine Calls.mono (Any.strings_Join uQ uY b o cap xs (st [44]) w hcells (hI.publt hS) (by omega) hle (by exact Nat.le_trans hl (by omega))) ?_
 rintro e w' ⟨rfl,hB⟩
 exact ⟨rfl,hI.grow ⟨hB.size,hB.os,hB.tape,hB.output,hB.block⟩⟩
end
end
section
open Go Go.RowKit
theorem sO {s:Bs} {i:Nat} (h:i<s.length) (c:Nat):sgn s i c=decide (s[i].toNat=c):=by simp [sgn,List.getElem?_eq_getElem h]
theorem qi {s:Bs} {i:Nat} (h:i<s.length) (a b:Nat):btw s i a b=(decide (a<=s[i].toNat) && decide (s[i].toNat<=b)):=by simp [btw,List.getElem?_eq_getElem h]
theorem r6 {s:Bs} {i:Nat} (h:¬ i<s.length) (a b:Nat):btw s i a b=false:=by simp [btw,List.getElem?_eq_none (Nat.le_of_not_lt h)]
section
attribute [local irreducible] Run CondV ah ax
theorem ki (s:Bs) (i:Nat) (S:ab):Pure Tryz.prog oy [.string (st s),.int .i64 (i:Int)] S (.bool (dig s i)):=by
 intro w hI
 refine gP.2 ?_
 dsimp only[gP,aC]
 refine eY (by omega) ?_
 refine rpG ?_
 refine rW aw ?_
 by_cases h:i<s.length
 ·refine qE (by omega) ?_
  refine rpG ?_
  refine cW aw h ?_
  rw [dig,qi h]
  by_cases h2:48<=s[i].toNat
  ·refine eY (by omega) ?_
   refine rpG ?_
   refine cW aw h ?_
   refine c7 ?_
   refine rpG ?_
   refine ae hI ?_
   rw [decide_eq_true h2,Bool.true_and]
   congr 1
   rw [decide_eq_decide]
   omega
  ·refine iO (by omega) ?_
   refine rpG ?_
   exact ae hI (by rw [decide_eq_false h2,Bool.false_and])
 ·refine iI (by omega) ?_
  refine rpG ?_
  exact ae hI (by rw [dig,r6 h])
theorem kq (s:Bs) (i:Nat) (S:ab):Pure Tryz.prog oL [.string (st s),.int .i64 (i:Int)] S (.bool (sml s i)):=by
 intro w hI
 refine iu.2 ?_
 dsimp only[iu,aC]
 refine eY (by omega) ?_
 refine rpG ?_
 refine rW aw ?_
 by_cases h:i<s.length
 ·refine qE (by omega) ?_
  refine rpG ?_
  refine cW aw h ?_
  rw [sml,qi h]
  by_cases h2:97<=s[i].toNat
  ·refine eY (by omega) ?_
   refine rpG ?_
   refine cW aw h ?_
   refine c7 ?_
   refine rpG ?_
   refine ae hI ?_
   rw [decide_eq_true h2,Bool.true_and]
   congr 1
   rw [decide_eq_decide]
   omega
  ·refine iO (by omega) ?_
   refine rpG ?_
   exact ae hI (by rw [decide_eq_false h2,Bool.false_and])
 ·refine iI (by omega) ?_
  refine rpG ?_
  exact ae hI (by rw [sml,r6 h])
end
section
attribute [local irreducible] Run CondV ah ax
end
section
attribute [local irreducible] Run CondV ah ax
end
section
attribute [local irreducible] Run CondV ah ax
end
section
attribute [local irreducible] Run CondV ah ax
end
end
section
open Go Go.RowKit
theorem Inv.pubExt {w0 w:World} {X:List Nat} {A:List Item} {S:ab} {L:aq} (h:Inv w0 X (A++cF L) S w) :
  ∃ S',Inv w0 X A S' w/\Ext w0.heap.size X S S'/\Ins S' L:=by
 obtain ⟨S',h1,h2,h3,h4⟩:=h.publishAll L
 refine ⟨S',h1,⟨h2,fun b o hb=>?_⟩,h3⟩
 rcases h4 b o hb with h5|h5
 ·exact .inl h5
 ·right
  exact h.new b (by rw [aT]; exact List.mem_append_right _ h5)
theorem Inv.pub1 {w0 w:World} {X:List Nat} {A:List Item} {S:ab} {b:Nat} {o:Obj} (h:Inv w0 X (A++[.blk b o]) S w) :
  ∃ S',Inv w0 X A S' w/\Ext w0.heap.size X S S'/\S' b=some o:=by
 obtain ⟨S',h1,h2,h3⟩:=Inv.pubExt (A:=A) (L:=[(b,o)]) h
 exact ⟨S',h1,h2,h3 _ (List.mem_singleton.2 rfl)⟩
theorem Rows.monoR {α:Type} {k:Nat} {R R':List Value->α->Prop} {css:List (List Value)} {ys:List α} (h:Rows k R css ys) (hR:∀ cs y,R cs y->R' cs y):Rows k R' css ys:=⟨h.hc,h.hk,fun i h1 h2=>hR _ _ (h.hR i h1 h2)⟩
theorem Rows.one {α:Type} {k:Nat} {R:List Value->α->Prop} {cs:List Value} {y:α} (hR:R cs y) (hl:cs.length=k):Rows k R [cs] [y]:=by
 have:=(Rows.nil k R).snoc hR hl
 exact this
section
variable {P:Program} {w w0:World} {X:List Nat} {L:List Item} {S:ab} {K:Value->World->Prop}
end
theorem Ext.trans {n:Nat} {Y:List Nat} {S S' S'':ab} (h:Ext n Y S S') (h':Ext n Y S' S''):Ext n Y S S'':=by
 refine ⟨h.1.trans h'.1,fun b o hb=>?_⟩
 rcases h'.2 b o hb with h1|h1
 ·exact h.2 b o h1
 ·exact .inr h1
section
variable {P:Program} {w w0:World} {X:List Nat} {A I:List Item} {S:ab} {K:Value->World->Prop}
end
theorem Inv.lendExt {w0 w:World} {X:List Nat} {A:List Item} {S:ab} {v:Value} {e:TypeId} {k:Nat} {css:List (List Value)} (h:Inv w0 X (A++[iH v e k css]) S w) :
  ∃ S',Ext w0.heap.size X S S'/\RowRd S' v e k css.length css.flatten/\Inv w0 X A S' w:=by
 obtain ⟨hl,ho⟩:=h.openRow
 rcases ho with ⟨rfl,h0⟩|⟨g,cap,cur,rfl,hnc,hcm,hcs,ht,hI⟩
 ·exact ⟨S,Ext.refl _ _ _,⟨hl,.inl ⟨rfl,h0⟩⟩,h.sub (List.sublist_append_left _ _)⟩
 ·obtain ⟨S',h1,h2,h3⟩:=Inv.pub1 (A:=A) hI
  exact ⟨S',h2,⟨hl,.inr ⟨g,cap,cur,rfl,h3,hnc,hcm,hcs,ht⟩⟩,h1⟩
end
section
open Go Go.RowKit
section
variable {w w0:World} {X:List Nat} {L:List Item} {S:ab} {K:Value->World->Prop}
attribute [local irreducible] Run CondV ah ax
theorem qC {P:Program} {T:TypeId} {cx cy:Bool} {x y:Int} {a b:Nat} (hx:x=a) (hy:y=b) (hr:a+b<=1000000000000000) (hk:K (.int .i64 ((a+b:Nat):Int)) w):Run P (a7 .add T cx cy (.int .i64 x) (.int .i64 y)) w K:=by
 subst hx hy
 refine br (by omega) ?_
 rw [<- Int.natCast_add]
 exact hk
end
section
attribute [local irreducible] Run CondV ah ax
end
end
section
open Go Go.RowKit

def ve (cs:List Value) (n:Nat):Prop:=cs=[.int .u8 (n:Int)]/\n<256
section
variable {P:Program} {w:World} {K:Value->World->Prop}
theorem un {T:TypeId} {cx cy:Bool} {x y:Int} {a b:Nat} (hx:x=a) (hy:y=b) (hb:0<b) (hk:K (.int .i64 ((a % b:Nat):Int)) w):Run P (a7 .rem T cx cy (.int .i64 x) (.int .i64 y)) w K:=by
 subst hx hy
 exact uJ hb hk
theorem uH {T:TypeId} {cx cy:Bool} {x y:Int} {a b:Nat} (hx:x=a) (hy:y=b) (hb:0<b) (ha:a<=9223372036854775807) (hk:K (.int .i64 ((a / b:Nat):Int)) w):Run P (a7 .quo T cx cy (.int .i64 x) (.int .i64 y)) w K:=by
 subst hx hy
 exact uq hb ha hk
end
theorem RdSl.u8 {S:ab} {sl:Value} {ys:List Nat} (h:RdSl S 1 ve sl ys) (h0:0<ys.length):∃ b o cap c E fz,sl=.slice (some ⟨b,o,none⟩) ys.length cap/\S b=some (.cells c E fz)/\
  ∀ i,i<ys.length->∃ y:Nat,c[o+i * 1]?=some (.int .u8 (y:Int))/\y<256:=by
 obtain ⟨a,cap,rfl,hl,hc,h⟩:=h
 rcases h with rfl|⟨b,o,c,E,fz,rfl,hS,hR⟩
 ·simp at h0
 ·refine ⟨b,o,cap,c,E,fz,rfl,hS,fun i hi=>?_⟩
  obtain ⟨h1,h2⟩:=hR i hi
  exact ⟨ys[i],bb h1 0 _ rfl,h2⟩
section
attribute [local irreducible] Run CondV ah ax
end
end
end Go.Proofs.YtbocelianhcfmaaGreatDoor
