/- Plain functions: texts of terms and clauses, and how texts are read. Fuel runs out: none. -/
import Derived.Test.YtcpgagfdeflbkaaGreatDoorZSl1
import Derived.Test.YtcpgagfdeflbkaaGreatDoorZSl3
import Derived.Test.YtcpgagfdeflbkaaGreatDoorZSlF
namespace Go.Proofs.YtcpgagfdeflbkaaGreatDoor
section
open Go Go.RowKit

abbrev Bs:=List UInt8
abbrev bs (s:ByteArray):Bs:=s.data.toList
abbrev st (l:Bs):ByteArray:=⟨l.toArray⟩
theorem D9 (l:Bs):bs (st l)=l:=by simp [bs]
theorem kU (l:Bs):(st l).size=l.length:=by simp [ByteArray.size]

def sgn (s:Bs) (i:Nat) (c:Nat):Bool:=match s[i]? with
 | some b=>decide (b.toNat=c)
 | none=>false
def btw (s:Bs) (i:Nat) (a b:Nat):Bool:=match s[i]? with
 | some x=>decide (a<=x.toNat) && decide (x.toNat<=b)
 | none=>false
def sml (s:Bs) (i:Nat):Bool:=btw s i 97 122
def dig (s:Bs) (i:Nat):Bool:=btw s i 48 57
def upp (s:Bs) (i:Nat):Bool:=btw s i 65 90
def cut (s:Bs) (a b:Nat):Bs:=(s.take b).drop a

def zq (s:Bs):Nat->Nat->Nat
 | 0,e=>e
 | n+1,e=>if sml s e=true then zq s n (e+1) else e
def ig (s:Bs) (i:Nat):List ByteArray->Bs->Bs
 | [],b=>b
 | x::l,b=>ig s i l (if decide (i+x.size<=s.length)=true/\cut s i (i+x.size)=bs x/\b.length<x.size then bs x else b)
def tU (s:Bs) (i:Nat):Option (Bs × Nat):=
 let e:=zq s (s.length - i) i
 if i+6<e then none else if i<e then some (cut s i e,e) else
  let b:=ig s i signs []
  if b=[] then none else some (b,i+b.length)
def rv (s:Bs):Nat->Nat->Nat
 | 0,e=>e
 | n+1,e=>if dig s e=true then rv s n (e+1) else e
def Dl:Bs->Nat->Nat
 | [],n=>n
 | b::l,n=>Dl l (n * 10+(b.toNat - 48))
def OT (s:Bs) (i:Nat):Option (T × Nat):=
 let from_:=if sgn s i 45=true then i+1 else i
 let e:=rv s 4 from_
 let d:=cut s from_ e
 let n:=Dl d 0
 if d=[] ∨ (sgn d 0 48=true/\1<d.length) ∨ (i<from_/\n=0) ∨ 999<n then none
 else some (.mk 2 (if i<from_ then -(n:Int) else n) emptyB [],e)
def JD (name:Bs) (kids:List T):T:=.mk 3 0 (st name) kids
def Sa:T:=JD [91,93] []
def II (a b:T):T:=JD [46] [a,b]
def iA:List T->T->T
 | [],t=>t
 | a::l,t=>II a (iA l t)
def opF (s:Bs) (i:Nat):Option (Bs × Nat):=
 let from_:=if sgn s i 32=true then i+1 else i
 if s.length<=from_ then none else match tU s from_ with
  | none=>none
  | some (name,next)=>
   let word:=decide (name=[105,115]) || decide (name=[109,111,100])
   if bV (st name)=0 ∨ word≠decide (i<from_) ∨ (word=true/\sgn s next 32=false) then none
   else some (name,if word=true then next+1 else next)
mutual
def i6:Nat->Bs->Nat->Nat->Nat->Option (T × Nat)
 | 0,_,_,_,_=>none
 | f+1,s,i,d,0=>s4 f s i d
 | f+1,s,i,d,l+1=>match i6 f s i d l with
  | none=>none
  | some (t,n)=>Je f s n d l t
def Je:Nat->Bs->Nat->Nat->Nat->T->Option (T × Nat)
 | 0,_,_,_,_,_=>none
 | f+1,s,i,d,l,t=>match opF s i with
  | none=>some (t,i)
  | some (name,after)=>if bV (st name)=((l+1:Nat):Int) then match i6 f s after d l with
    | none=>none
    | some (r,e)=>if l=2 then some (JD name [t,r],e) else Je f s e d l (JD name [t,r])
   else some (t,i)
def s4:Nat->Bs->Nat->Nat->Option (T × Nat)
 | 0,_,_,_=>none
 | f+1,s,i,d=>if d=0 ∨ s.length<=i then none else if sgn s i 40=true then match i6 f s (i+1) d 3 with
    | none=>none
    | some (t,n)=>if sgn s n 41=true then some (t,n+1) else none
  else if sgn s i 91=true/\sgn s (i+1) 93=false then match gZ f s (i+1) (d - 1) 93 124 [] with
    | none=>none
    | some (ts,n)=>if sgn s n 93=true then some (iA ts Sa,n+1) else match i6 f s (n+1) (d - 1) 3 with
     | none=>none
     | some (t,e)=>if sgn s e 93=true then some (iA ts t,e+1) else none
  else if upp s i=true then some (.mk 1 ((s.getD i 0).toNat - 65) emptyB [],i+1)
  else if dig s i=true ∨ (sgn s i 45=true/\dig s (i+1)=true) then OT s i
  else match tU s i with
   | none=>none
   | some (name,n)=>if sgn s n 40=false then some (JD name [],n) else match gZ f s (n+1) (d - 1) 41 41 [] with
    | none=>none
    | some (ts,e)=>some (JD name ts,e+1)
def gZ:Nat->Bs->Nat->Nat->Nat->Nat->List T->Option (List T × Nat)
 | 0,_,_,_,_,_,_=>none
 | f+1,s,i,d,e,o,acc=>match i6 f s i d 3 with
  | none=>none
  | some (t,n)=>if sgn s n e=true ∨ sgn s n o=true then some (acc++[t],n) else if sgn s n 44=true then gZ f s (n+1) d e o (acc++[t]) else none
end

def nN (t:T):Bool:=decide (t.kind=3) && (decide (t.kids.length=2) && decide (0<bV t.name))
def AO (t:T):Bool:=decide (t.kind=3) && (decide (t.name=st [46]) && decide (t.kids.length=2))
def Ob (t:T):Bool:=decide (t.kind=3) && (decide (t.name=st [91,93]) && decide (t.kids.length=0))
def yh (t:T):Bool:=decide (t.kind=3) && (decide (t.kids.length=0) && decide (0<bV t.name))
def E3 (s:Bs):Bool:=sml s 0 || (dig s 0 || (upp s 0 || (sgn s 0 91 || sgn s 0 40)))
def hO (n:Bs):Bs:=if n=[105,115] ∨ n=[109,111,100] then 32::(n++[32]) else n
def DG:Nat->Nat->Bs->Option Bs
 | 0,_,_=>none
 | f+1,n,out=>if 9<n then DG f (n / 10) (UInt8.ofNat (48+n % 10)::out) else some (UInt8.ofNat (48+n)::out)
def RS (n:Int):Option Bs:=if n<0 then (DG 20 (-n).toNat []).map fun l=>45::l else DG 20 n.toNat []
def N1 (t:T):Option Bs:=if t.kind=1 then (if 0<=t.n/\t.n<=25 then some [UInt8.ofNat (65+t.n.toNat)] else none)
 else if t.kind=2 then (if -999<=t.n/\t.n<=999 then RS t.n else none) else if t.kids.length=0 then some (bs t.name) else none
mutual
def Gg:Nat->T->Option Bs
 | 0,_=>none
 | f+1,t=>if AO t=true then Ez f t [] else if nN t=true then match t.kids with
   | [a,b]=>match MF f a (if bV t.name=3 then 2 else bV t.name),FQ f b (bV t.name - 1) with
    | some x,some y=>some (x++hO (bs t.name)++y)
    | _,_=>none
   | _=>none
  else if t.kind=3/\0<t.kids.length then match ou f t.kids [] with
   | some x=>some (bs t.name++[40]++x++[41])
   | none=>none
  else N1 t
def Ez:Nat->T->List T->Option Bs
 | 0,_,_=>none
 | f+1,t,items=>if AO t=true then match t.kids with
   | [a,b]=>Ez f b (items++[a])
   | _=>none
  else match ou f items [] with
   | none=>none
   | some x=>if Ob t=true then some ([91]++x++[93]) else match Gg f t with
    | none=>none
    | some y=>some ([91]++x++[124]++y++[93])
def ou:Nat->List T->Bs->Option Bs
 | 0,_,_=>none
 | _+1,[],out=>some out
 | f+1,t::l,out=>match Gg f t with
  | none=>none
  | some x=>ou f l (out++x++(if l=[] then [] else [44]))
def pG:Nat->T->Int->Option Bs
 | 0,_,_=>none
 | f+1,t,l=>match Gg f t with
  | none=>none
  | some x=>some (if nN t=true/\l<bV t.name then [40]++x++[41] else x)
def MF:Nat->T->Int->Option Bs
 | 0,_,_=>none
 | f+1,t,l=>if yh t=true then match Gg f t with
   | none=>none
   | some x=>some ([40]++x++[41])
  else pG f t l
def FQ:Nat->T->Int->Option Bs
 | 0,_,_=>none
 | f+1,t,l=>match pG f t l with
  | none=>none
  | some x=>if x=[] then none else some (if yh t=true ∨ E3 x=false then [40]++x++[41] else x)
end
def yM (f:Nat):List T->Bool->Bs->Option Bs
 | [],_,out=>some out
 | t::l,first,out=>match Gg f t with
  | none=>none
  | some x=>yM f l false (out++(if first=true then [58,45] else [44])++x)
def MS (f:Nat) (c:C):Option Bs:=match Gg f c.head with
 | none=>none
 | some x=>match yM f c.body true x with
  | none=>none
  | some y=>some (y++[46])

def nh (f:Nat):Nat->Bs->Nat->List T->Option (List T × Nat)
 | 0,_,_,_=>none
 | k+1,s,i,acc=>if 6<acc.length then none else match i6 f s i 30 3 with
  | none=>none
  | some (t,n)=>if sgn s n 44=true then nh f k s (n+1) (acc++[t]) else some (acc++[t],n)
def NC (f:Nat) (s:Bs) (c:C) (n:Nat):Option C:=
 if n+1=s.length/\sgn s n 46=true/\bX c=true/\wC c<=200/\MS f c=some s then some c else none
def uA (f:Nat) (s:Bs):Option C:=if 1000<s.length then none else match i6 f s 0 30 3 with
 | none=>none
 | some (h,n)=>if sgn s n 58=true/\sgn s (n+1) 45=true then match nh f 8 s (n+2) [] with
   | none=>none
   | some (b,n2)=>NC f s ⟨h,b⟩ n2
  else NC f s ⟨h,[]⟩ n
def Dx (s:Bs) (c:Nat):Nat->Nat->Nat->List Bs->List Bs
 | 0,i,from_,acc=>acc++[cut s from_ i]
 | n+1,i,from_,acc=>if sgn s i c=true then Dx s c n (i+1) (i+1) (acc++[cut s from_ i]) else Dx s c n (i+1) from_ acc
def Pu (s:Bs):List Bs:=Dx s 10 s.length 0 0 []
def ko (f:Nat):List Bs->List C->Option (List C)
 | [],acc=>some acc
 | l::ls,acc=>match uA f l with
  | none=>none
  | some c=>ko f ls (acc++[c])
def Mp (f:Nat) (s:Bs):Option (List C):=
 let ls:=Pu s
 if 21<ls.length ∨ ls.getLast?≠some [] then none else ko f ls.dropLast []
def Oh (s:Bs):Bool:=match Mp 60 s with
 | some p=>decide (0<p.length) && (decide (p.length<=8) && p.all fun c=>bX c && decide (wC c<=200))
 | none=>false
end
section
open Go Go.RowKit
section
variable {P:Program} {w w0:World} {X:List Nat} {L:List Item} {S:ad} {K:Value->World->Prop}
theorem BA {T:TypeId} {cx cy:Bool} {k:IntKind} {a b:Int} (h:a<b) (hk:K (.bool true) w):Run P (cw .lss T cx cy (.int k a) (.int k b)) w K:=by
 refine bL ?_
 rw [aS h]
 exact hk
theorem eA {T:TypeId} {cx cy:Bool} {k:IntKind} {a b:Int} (h:¬ (a<b)) (hk:K (.bool false) w):Run P (cw .lss T cx cy (.int k a) (.int k b)) w K:=by
 refine bL ?_
 rw [bg h]
 exact hk
theorem GN {T:TypeId} {cx cy:Bool} {k:IntKind} {a b:Int} (h:a<=b) (hk:K (.bool true) w):Run P (cw .leq T cx cy (.int k a) (.int k b)) w K:=by
 refine eL ?_
 rw [aS h]
 exact hk
theorem On {T:TypeId} {cx cy:Bool} {k:IntKind} {a b:Int} (h:¬ (a<=b)) (hk:K (.bool false) w):Run P (cw .leq T cx cy (.int k a) (.int k b)) w K:=by
 refine eL ?_
 rw [bg h]
 exact hk
theorem JS {T:TypeId} {cx cy:Bool} {k:IntKind} {a b:Int} (h:b<a) (hk:K (.bool true) w):Run P (cw .gtr T cx cy (.int k a) (.int k b)) w K:=by
 refine eU ?_
 rw [aS h]
 exact hk
theorem ku {T:TypeId} {cx cy:Bool} {k:IntKind} {a b:Int} (h:¬ (b<a)) (hk:K (.bool false) w):Run P (cw .gtr T cx cy (.int k a) (.int k b)) w K:=by
 refine eU ?_
 rw [bg h]
 exact hk
theorem ni {T:TypeId} {cx cy:Bool} {k:IntKind} {a b:Int} (h:b<=a) (hk:K (.bool true) w):Run P (cw .geq T cx cy (.int k a) (.int k b)) w K:=by
 refine kX ?_
 rw [aS h]
 exact hk
theorem ww {T:TypeId} {cx cy:Bool} {k:IntKind} {a b:Int} (h:¬ (b<=a)) (hk:K (.bool false) w):Run P (cw .geq T cx cy (.int k a) (.int k b)) w K:=by
 refine kX ?_
 rw [bg h]
 exact hk
theorem eW {T:TypeId} {cx cy:Bool} {k:IntKind} {a b:Int} (h:a=b) (hk:K (.bool true) w):Run P (cw .eql T cx cy (.int k a) (.int k b)) w K:=by
 refine bl ?_
 rw [aS h]
 exact hk
theorem ei {T:TypeId} {cx cy:Bool} {k:IntKind} {a b:Int} (h:¬ (a=b)) (hk:K (.bool false) w):Run P (cw .eql T cx cy (.int k a) (.int k b)) w K:=by
 refine bl ?_
 rw [bg h]
 exact hk
theorem AV {T:TypeId} {cx cy:Bool} {a b:Int} (hr:-9223372036854775808<=a * b/\a * b<=9223372036854775807) (hk:K (.int .i64 (a * b)) w):Run P (cw .mul T cx cy (.int .i64 a) (.int .i64 b)) w K:=
 Run.of (by simp [cw,cC,binOp,Op.intArith,IntWalk.i64_in _ hr]) hk
theorem RR {T:TypeId} {cx cy:Bool} {a b:Nat} (hb:0<b) (ha:a<=9223372036854775807) (hk:K (.int .i64 ((a / b:Nat):Int)) w):Run P (cw .quo T cx cy (.int .i64 (a:Int)) (.int .i64 (b:Int))) w K:=by
 refine Run.of ?_ hk
 have h0:¬ ((b:Int)=0):=by omega
 have h1:IntKind.i64.wrap ((a:Int).tdiv b)=((a / b:Nat):Int):=by
  rw [IntWalk.i64_quo _ _ (by omega)]; rfl
 simp only [cw,cC,binOp,Op.intDiv,Sem.run_bind,Result.andThen_ok,af h0,Sem.run_pure]
 exact congrArg (fun v=>Result.ok (Next.value (.int .i64 v)) w) h1
theorem Lk {T:TypeId} {cx cy:Bool} {a b:Nat} (hb:0<b) (hk:K (.int .i64 ((a % b:Nat):Int)) w):Run P (cw .rem T cx cy (.int .i64 (a:Int)) (.int .i64 (b:Int))) w K:=by
 refine Run.of ?_ hk
 have h1:(a:Int).tmod b=((a % b:Nat):Int):=by
  rw [IntWalk.rem_in _ _ (by omega)]; rfl
 have h0:¬ ((b:Int)=0):=by omega
 simp only [cw,cC,binOp,Op.intDiv,Sem.run_bind,Result.andThen_ok,af h0,Sem.run_pure]
 exact congrArg (fun v=>Result.ok (Next.value (.int .i64 v)) w) h1
theorem RQ {T:TypeId} {cx cy:Bool} {a b:Nat} (ha:a<4611686018427387904) (hb:b<4611686018427387904) (hk:K (.int .i64 ((a ^^^ b:Nat):Int)) w):Run P (cw .xor T cx cy (.int .i64 (a:Int)) (.int .i64 (b:Int))) w K:=by
 refine Run.of ?_ hk
 have hx:a ^^^ b<2 ^ 62:=Nat.xor_lt_two_pow (by simpa using ha) (by simpa using hb)
 have e1:(BitVec.ofInt 64 (a:Int)).toNat=a:=by rw [BitVec.toNat_ofInt]; omega
 have e2:(BitVec.ofInt 64 (b:Int)).toNat=b:=by rw [BitVec.toNat_ofInt]; omega
 have h1:IntKind.i64.wrap ((BitVec.ofInt 64 (a:Int) ^^^ BitVec.ofInt 64 (b:Int)).toNat:Int)=((a ^^^ b:Nat):Int):=by
  rw [BitVec.toNat_xor,e1,e2]
  exact IntWalk.i64_in _ (by omega)
 simp only [cw,cC,binOp,Op.intBits,Sem.run_bind,Result.andThen_ok,Sem.run_pure]
 exact congrArg (fun v=>Result.ok (Next.value (.int .i64 v)) w) h1
theorem Rr {T:TypeId} {cx cy:Bool} {k:IntKind} {a b c:Int} (hr:k.wrap (a+b)=c) (hk:K (.int k c) w):Run P (cw .add T cx cy (.int k a) (.int k b)) w K:=
 Run.of (by simp [cw,cC,binOp,Op.intArith,hr]) hk
theorem Pa {T:TypeId} {cx cy:Bool} {k:IntKind} {a b c:Int} (hr:k.wrap (a - b)=c) (hk:K (.int k c) w):Run P (cw .sub T cx cy (.int k a) (.int k b)) w K:=
 Run.of (by simp [cw,cC,binOp,Op.intArith,hr]) hk
theorem qk {src dst ty:TypeId} {k k':IntKind} {n m:Int} {d:TypeDesc} (hs:P.underlying src=some d) (hd:P.underlying dst=some (.int k')) (hr:k'.wrap n=m) (hk:K (.int k' m) w) :
  Run P (sOp (.convert src dst (.const (.int k n))) ty) w K:=by
 refine Run.of ?_ hk
 simp [sOp,execOp,ev0,evE,convert,run_underlying hs,run_underlying hd,Conv.intToInt,hr]
theorem Rp {T ty:TypeId} {n:Int} (hr:-9223372036854775808<=-n/\-n<=9223372036854775807) (hk:K (.int .i64 (-n)) w):Run P (sOp (.unOp .neg T (.const (.int .i64 n))) ty) w K:=
 Run.of (by simp [sOp,execOp,ev0,evE,Op.unary,Op.intArith,Int.zero_sub,IntWalk.i64_in _ hr]) hk
theorem RH (a b:Bs):st a++st b=st (a++b):=by
 apply ByteArray.ext
 simp [st]
theorem dx {T:TypeId} {cx cy:Bool} {a b:Bs} (hl:a.length+b.length<=9223372036854775807) (hk:K (.string (st (a++b))) w):Run P (cw .add T cx cy (.string (st a)) (.string (st b))) w K:=by
 refine Run.of ?_ hk
 have h1:¬ (9223372036854775807<(((st a).size+(st b).size:Nat):Int)):=by rw [kU,kU]; omega
 have h2:IntKind.i64.max=9223372036854775807:=by decide
 simp only [cw,binOp,Op.stringOp,Sem.run_bind,qC,Result.andThen_ok,gt_iff_lt,h2,af h1,Sem.run_pure,RH]
theorem RA (s:Bs) (a b:Nat):(st s).extract a b=st (cut s a b):=by
 apply ByteArray.ext
 apply Bk.1
 simp [cut,ByteArray.data_extract,List.drop_take]
theorem AK {T ty:TypeId} {s:Bs} {a b:Nat} (hu:P.underlying T=some .string) (hab:a<=b) (hb:b<=s.length) (hk:K (.string (st (cut s a b))) w) :
  Run P (sOp (.slice T (.const (.string (st s))) (some (.const (.int .i64 a))) (some (.const (.int .i64 b))) none) ty) w K:=by
 refine Run.of ?_ hk
 have hb':b<=(st s).size:=by rw [kU]; exact hb
 simp [sOp,execOp,ev0,evE,Instr.sliceAt,Instr.slice,Instr.sliceBounds,run_underlying hu,qZ hab,qZ hb',RA]
theorem dV {T ty:TypeId} {s:Bs} {i:Nat} (hu:P.underlying T=some .string) (hi:i<s.length) (hk:K (.int .u8 s[i].toNat) w) :
  Run P (sOp (.index T (.const (.string (st s))) (.const (.int .i64 i))) ty) w K:=by
 have hi':i<(st s).size:=by rw [kU]; exact hi
 refine kz hu hi' ?_
 have:(st s)[i]=s[i]:=by simp [st,ByteArray.getElem_eq_getElem_data]
 rw [this]
 exact hk
theorem fh {T ty:TypeId} {cs:List Bool} {s:Bs} (hu:P.underlying T=some .string) (hk:K (.int .i64 s.length) w):Run P (bH .len #[T] ty cs [.string (st s)]) w K:=by
 refine g8 hu ?_
 rw [kU]
 exact hk
theorem Bp {T:TypeId} {cx cy:Bool} {a b:Bs} (hk:K (.bool (decide (a=b))) w):Run P (cw .eql T cx cy (.string (st a)) (.string (st b))) w K:=by
 refine bt ?_
 have:decide (st a=st b)=decide (a=b):=by
  rw [fq]
  exact ⟨fun h=>by rw [<- D9 a,h,D9],fun h=>by rw [h]⟩
 rw [this]
 exact hk
theorem LY {T:TypeId} {cx cy:Bool} {a b:Bs} (hk:K (.bool (!decide (a=b))) w):Run P (cw .neq T cx cy (.string (st a)) (.string (st b))) w K:=by
 refine Pn ?_
 have:decide (st a=st b)=decide (a=b):=by
  rw [fq]
  exact ⟨fun h=>by rw [<- D9 a,h,D9],fun h=>by rw [h]⟩
 rw [this]
 exact hk
theorem AU (h:Inv w0 X L S w) {T T' D ty e:TypeId} {by_:Nat} {z:Value} {n:Nat} (hT:lG P T=some (e,1,by_,z)) (he:P.underlying T'=some (.slice e)) (hb:P.underlying e=some (.int .u8)) (hD:P.underlying D=some .string)
  {K:Value->Value->World->Prop} (hk:∀ w',Inv w0 X L S w'->K (.slice (some ⟨w.heap.size,0,none⟩) 1 1) (.string (st [UInt8.ofNat n])) w') :
  Run P (bF T 1 [(0,.int .u8 (n:Int))]) w fun u w'=>Run P (sOp (.convert T' D (.const u)) ty) w' (K u):=by
 refine rj h hT rfl (by omega) (by omega) fun w' hI=>?_
 have hi:(L++[Item.blk w.heap.size (.cells (Value.int .u8 (n:Int)).cells e)])[L.length]?=some (.blk w.heap.size (.cells (Value.int .u8 (n:Int)).cells e)):=by
  rw [gP (aM _),dY]; rfl
 have hc:w'.cell? ⟨w.heap.size,0,none⟩=some (.int .u8 (n:Int)):=by rw [hI.cellL hi]; rfl
 have hl:=run_loadCells_list (P:=P) (w:=w') ⟨w.heap.size,0,none⟩ [.int .u8 (n:Int)] (fun j v hj=>by
  match j with
  | 0=>simp only [ER,aT] at hj; subst hj; rw [kL]; exact hc
  | j+1=>simp at hj)
 simp only [bk,bG] at hl
 refine Run.of (w':=w') ?_ (hk _ (hI.sub (dn _ _)))
 simp [sOp,execOp,ev0,evE,convert,run_underlying he,run_underlying hb,run_underlying hD,Conv.bytesToString,hl,st]
 rfl
end
end
section
open Go Go.RowKit
theorem j0 {s:Bs} {i:Nat} (h:i<s.length) (c:Nat):sgn s i c=decide (s[i].toNat=c):=by simp [sgn,List.getElem?_eq_getElem h]
theorem Po {s:Bs} {i:Nat} (h:¬ i<s.length) (c:Nat):sgn s i c=false:=by simp [sgn,List.getElem?_eq_none (Nat.le_of_not_lt h)]
theorem nW {s:Bs} {i:Nat} (h:i<s.length) (a b:Nat):btw s i a b=(decide (a<=s[i].toNat) && decide (s[i].toNat<=b)):=by simp [btw,List.getElem?_eq_getElem h]
theorem LK {s:Bs} {i:Nat} (h:¬ i<s.length) (a b:Nat):btw s i a b=false:=by simp [btw,List.getElem?_eq_none (Nat.le_of_not_lt h)]
theorem Bw {s:Bs} {i a b:Nat} (h:btw s i a b=true):i<s.length:=by
 rcases FZ i s.length with h1|h1
 ·exact h1
 ·rw [LK (by omega)] at h; cases h
theorem ib {s:Bs} {i c:Nat} (h:sgn s i c=true):i<s.length:=by
 rcases FZ i s.length with h1|h1
 ·exact h1
 ·rw [Po (by omega)] at h; cases h
section
attribute [local irreducible] Run CondV aq aK
theorem cu (s:Bs) (i c:Nat) (S:ad):Pure Tryz.prog KH [.string (st s),.int .i64 (i:Int),.int .u8 (c:Int)] S (.bool (sgn s i c)):=by
 intro w hI
 refine yk.2 ?_
 dsimp only[yk,gM]
 refine ni (by omega) ?_
 refine rpG ?_
 refine fh aJ ?_
 by_cases h:i<s.length
 ·refine BA (by omega) ?_
  refine rpG ?_
  refine dV aJ h ?_
  refine bl ?_
  refine rpG ?_
  refine done hI ?_
  rw [j0 h]
  congr 1
  rw [fq]
  omega
 ·refine eA (by omega) ?_
  refine rpG ?_
  exact done hI (by rw [Po h])
theorem gB (s:Bs) (i:Nat) (S:ad):Pure Tryz.prog Ie [.string (st s),.int .i64 (i:Int)] S (.bool (dig s i)):=by
 intro w hI
 refine ur.2 ?_
 dsimp only[ur,aO]
 refine ni (by omega) ?_
 refine rpG ?_
 refine fh aJ ?_
 by_cases h:i<s.length
 ·refine BA (by omega) ?_
  refine rpG ?_
  refine dV aJ h ?_
  rw [dig,nW h]
  by_cases h2:48<=s[i].toNat
  ·refine ni (by omega) ?_
   refine rpG ?_
   refine dV aJ h ?_
   refine eL ?_
   refine rpG ?_
   refine done hI ?_
   rw [aS h2,dU]
   congr 1
   rw [fq]
   omega
  ·refine ww (by omega) ?_
   refine rpG ?_
   exact done hI (by rw [bg h2,gJ])
 ·refine eA (by omega) ?_
  refine rpG ?_
  exact done hI (by rw [dig,LK h])
theorem oi (s:Bs) (i:Nat) (S:ad):Pure Tryz.prog JH [.string (st s),.int .i64 (i:Int)] S (.bool (sml s i)):=by
 intro w hI
 refine tZ.2 ?_
 dsimp only[tZ,aO]
 refine ni (by omega) ?_
 refine rpG ?_
 refine fh aJ ?_
 by_cases h:i<s.length
 ·refine BA (by omega) ?_
  refine rpG ?_
  refine dV aJ h ?_
  rw [sml,nW h]
  by_cases h2:97<=s[i].toNat
  ·refine ni (by omega) ?_
   refine rpG ?_
   refine dV aJ h ?_
   refine eL ?_
   refine rpG ?_
   refine done hI ?_
   rw [aS h2,dU]
   congr 1
   rw [fq]
   omega
  ·refine ww (by omega) ?_
   refine rpG ?_
   exact done hI (by rw [bg h2,gJ])
 ·refine eA (by omega) ?_
  refine rpG ?_
  exact done hI (by rw [sml,LK h])
end
theorem Mk {s:Bs} {i:Nat} (h:i<s.length):dig s i=true↔48<=s[i].toNat/\s[i].toNat<=57:=by
 rw [dig,nW h,bN,bC,bC]
theorem NL {d:Bs} {j:Nat} (h:j<d.length) (m:Nat):Dl (d.drop j) m=Dl (d.drop (j+1)) (m * 10+(d[j].toNat - 48)):=by
 rw [di h,Dl]
section
attribute [local irreducible] Run CondV aq aK
theorem Gw (d:Bs) (hd:∀ i,i<d.length->dig d i=true) (h0:0<d.length) (h4:d.length<=4) (hz:¬ (sgn d 0 48=true/\1<d.length)) (S:ad) :
  Pure Tryz.prog Lw [.string (st d)] S (.tuple #[.int .i64 ((Dl d 0:Nat):Int),.bool true]):=by
 intro w hI
 refine yJ.2 ?_
 dsimp only[yJ,aG]
 have hd0:=(Mk h0).1 (hd 0 h0)
 refine ⟨fun t w'=>t=.bool false/\Inv w [] [] S w',?_,?_⟩
 ·refine fh aJ ?_
  refine JS (by omega) ?_
  refine rpG ?_
  refine dV (i:=0) aJ h0 ?_
  refine ei (by omega) ?_
  refine rpG ?_
  exact ⟨rfl,hI⟩
 intro t4 _ _ _ _ _ _ _ _ w'
 rintro ⟨rfl,hI⟩
 refine ⟨fun t w'=>t=.string (st d)/\Inv w [] [] S w',?_,?_⟩
 ·exact aw (fun hb=>by cases hb) (fun _=>⟨rfl,hI⟩)
 intro t0 _ _ _ w'
 rintro ⟨rfl,hI⟩
 refine ⟨fun t w'=>t=.bool false/\Inv w [] [] S w',?_,?_⟩
 ·refine fh aJ ?_
  refine ei (by omega) ?_
  refine rpG ?_
  refine fh aJ ?_
  refine ku (by omega) ?_
  refine rpG ?_
  refine dV (i:=0) aJ h0 ?_
  by_cases hs:d[0].toNat=48
  ·refine eW (by omega) ?_
   refine rpG ?_
   refine fh aJ ?_
   refine ku (by
    have:¬ 1<d.length:=fun h=>hz ⟨by rw [j0 h0,hs]; rfl,h⟩
    omega) ?_
   refine rpG ?_
   exact ⟨rfl,hI⟩
  ·refine ei (by omega) ?_
   refine rpG ?_
   exact ⟨rfl,hI⟩
 intro t38 _ _ _ _ _ _ _ _ _ _ _ _ _ _ _ _ _ _ _ _ w'
 rintro ⟨rfl,hI⟩
 refine aw (fun hb=>by cases hb) (fun _=>?_)
 refine ⟨fun i n w'=>∃ j m:Nat,j<=d.length/\i=.int .i64 j/\n=.int .i64 m/\m<10 ^ j/\Dl (d.drop j) m=Dl d 0/\Inv w [] [] S w',fun i _ _=>d.length - (intOf i).toNat,
  ⟨0,0,aR _,rfl,rfl,by simp,rfl,hI⟩,?_⟩
 intro t6 _ _ t5 _ _ _ _ _ _ _ _ _ _ _ _ _ _ _ _ _ _ _ _ _ _ _ _ w'
 rintro ⟨j,m,hj,rfl,rfl,hm,hval,hI⟩
 have hp:10 ^ j<=10 ^ 4:=Kb (by omega) (by omega)
 refine fh aJ ?_
 refine bL ?_
 refine aH (fun hji=>?_) (fun hji=>?_)
 ·have hj':j<d.length:=by omega
  have hdj:=(Mk hj').1 (hd j hj')
  refine ⟨fun t w'=>t=.bool false/\Inv w [] [] S w',?_,?_⟩
  ·refine dV aJ hj' ?_
   refine eA (by omega) ?_
   refine rpG ?_
   refine dV aJ hj' ?_
   refine ku (by omega) ?_
   refine rpG ?_
   exact ⟨rfl,hI⟩
  intro t54 _ _ _ _ _ _ _ _ _ w'
  rintro ⟨rfl,hI⟩
  refine aw (fun hb=>by cases hb) (fun _=>?_)
  refine AV (by omega) ?_
  refine dV aJ hj' ?_
  refine Pa (c:=((d[j].toNat - 48:Nat):Int)) ?_ ?_
  ·rw [IntWalk.u8_in _ (by omega)]; omega
  refine qk fK gd (IntWalk.i64_in _ (by omega)) ?_
  refine bn (by omega) ?_
  refine bn (by omega) ?_
  refine ⟨⟨j+1,m * 10+(d[j].toNat - 48),hj',rfl,?_,?_,?_,hI⟩,by simp [intOf]; omega⟩
  ·congr 1
  ·rw [Nat.pow_succ]; omega
  ·rw [<- hval,NL hj']
 ·have:j=d.length:=by omega
  subst this
  rw [dP,Dl] at hval
  refine ⟨fun t w'=>t=.int .i64 m/\Inv w [] [] S w',aw (fun hb=>by cases hb) (fun _=>⟨rfl,hI⟩),?_⟩
  intro t5 _ _ _ w'
  rintro ⟨rfl,hI⟩
  exact done hI (by rw [hval])
abbrev Ed (k n:Int):Value:=.agg #[.int .i64 k,.int .i64 n,.string ⟨#[]⟩,.slice none 0 0]
theorem pI {w:World} {K:Value->World->Prop} {k n:Int} (hk:K (Ed k n) w):Run Tryz.prog (cn ab [(0,.int .i64 k),(1,.int .i64 n)]) w K:=by
 refine Run.of (v:=Ed k n) (w':=w) ?_ hk
 unfold cn
 rw [Sem.run_bind,run_build w ab _ #[.int .i64 k,.int .i64 n,.string ⟨#[]⟩,.slice none 0 0] (by kernel_rfl),Result.andThen_ok]
 rfl
theorem sg (n:Int) (S:ad):Pure Tryz.prog Nk [.int .i64 n] S (Ed 1 n):=by
 intro w hI
 refine Bi.2 ?_
 dsimp only[Bi,aG]
 refine aP hI aZ fun b w' hI=>?_
 refine pI ?_
 refine aA hI 0 rfl ac rfl rfl (by simp [Value.oneCell']) fun w' hI=>?_
 refine bw hI 0 ac rfl rfl ?_
 exact done hI rfl
theorem lO (n:Int) (S:ad):Pure Tryz.prog Nv [.int .i64 n] S (Ed 2 n):=by
 intro w hI
 refine Cr.2 ?_
 dsimp only[Cr,aG]
 refine aP hI aZ fun b w' hI=>?_
 refine pI ?_
 refine aA hI 0 rfl ac rfl rfl (by simp [Value.oneCell']) fun w' hI=>?_
 refine bw hI 0 ac rfl rfl ?_
 exact done hI rfl
end
theorem H3 (s:Bs) (n e:Nat):rv s (n+1) e=if dig s e=true then rv s n (e+1) else e:=rfl
theorem GC (s:Bs):∀ (n e:Nat),e<=rv s n e/\rv s n e<=e+n
 | 0,e=>by simp [rv]
 | n+1,e=>by
  rw [rv]
  split
  ·have:=GC s n (e+1); omega
  ·omega
theorem tj (s:Bs):∀ (n e i:Nat),e<=i->i<rv s n e->dig s i=true
 | 0,e,i,h1,h2=>by simp [rv] at h2; omega
 | n+1,e,i,h1,h2=>by
  rw [rv] at h2
  split at h2
  ·rename_i h
   by_cases he:e=i
   ·subst he; exact h
   ·exact tj s n (e+1) i (by omega) h2
  ·omega
theorem GZ {s:Bs} {a b i:Nat} (hi:i<(cut s a b).length):∃ h:a+i<s.length,(cut s a b)[i]=s[a+i]/\a+i<b:=by
 have h1:(cut s a b).length=min b s.length - a:=by simp [cut]
 refine ⟨by omega,?_,by omega⟩
 simp [cut]
theorem Gr {s:Bs} {a b:Nat} (hb:b<=s.length):(cut s a b).length=b - a:=by simp [cut]; omega
theorem Qv {s:Bs} {a b i:Nat} (hi:i<(cut s a b).length):dig (cut s a b) i=dig s (a+i):=by
 obtain ⟨h,e,_⟩:=GZ hi
 rw [dig,dig,nW hi,nW h,e]
section
attribute [local irreducible] Run CondV aq aK
theorem AD {s:Bs} {i e:Nat} {t:T} (hn:OT s i=some (t,e)) (hi:i<=100000) (S:ad) :
  ∃ n:Int,inI n/\t=.mk 2 n emptyB []/\i<=e/\e<=i+5/\Pure Tryz.prog FF [.string (st s),.int .i64 (i:Int)] S (.tuple #[Ed 2 n,.int .i64 (e:Int)]):=by
 unfold OT at hn
 obtain ⟨fr,hfr⟩:∃ fr,fr=if sgn s i 45=true then i+1 else i:=⟨_,rfl⟩
 simp only [<- hfr] at hn
 obtain ⟨en,hen⟩:∃ en,en=rv s 4 fr:=⟨_,rfl⟩
 simp only [<- hen] at hn
 have hle:=GC s 4 fr
 rw [<- hen] at hle
 have hfi:i<=fr/\fr<=i+1:=by rw [hfr]; split <;> omega
 split at hn
 ·cases hn
 rename_i hc
 simp only [not_or] at hc
 obtain ⟨hc1,hc2,hc3,hc4⟩:=hc
 simp only [aT,cL] at hn
 obtain ⟨rfl,rfl⟩:=hn
 have hdig:∀ j,j<(cut s fr en).length->dig (cut s fr en) j=true:=fun j hj=>by
  obtain ⟨h1,h2,h3⟩:=GZ hj
  rw [Qv hj]
  exact tj s 4 fr _ (by omega) (by rw [<- hen]; exact h3)
 have hlen0:0<(cut s fr en).length:=by
  cases he:cut s fr en with
  | nil=>exact absurd he hc1
  | cons a l=>simp
 have hen2:fr<en:=by
  obtain ⟨_,_,h3⟩:=GZ hlen0
  omega
 have hens:en<=s.length:=by
  have:=tj s 4 fr (en - 1) (by omega) (by rw [<- hen]; omega)
  have:=Bw this
  omega
 refine ⟨_,?_,rfl,by omega,by omega,?_⟩
 ·unfold inI; split <;> omega
 intro w hI
 refine rL.2 ?_
 dsimp only[rL,aO]
 refine aP hI aZ fun b4 w' hI=>?_
 refine ⟨fun t w'=>t=.int .i64 (fr:Int)/\Inv w [] [.blk b4 (.cells #[.int .i64 0,.int .i64 0,.string ⟨#[]⟩,.slice none 0 0] ab)] S w',?_,?_⟩
 ·refine Run.callPure cF cG hI (cu s i 45 S) fun w' hI=>?_
  refine aw (fun hb=>?_) (fun hb=>?_)
  ·refine bn (by omega) ?_
   rw [ai hb] at hfr
   exact ⟨by rw [hfr]; congr 1,hI⟩
  ·rw [af (by rw [hb]; decide)] at hfr
   exact ⟨by rw [hfr],hI⟩
 intro t6 _ _ _ _ _ w'
 rintro ⟨rfl,hI⟩
 refine ⟨fun t w'=>∃ j:Nat,t=.int .i64 (j:Int)/\fr<=j/\j<=fr+4/\rv s (fr+4 - j) j=en/\Inv w [] [.blk b4 (.cells #[.int .i64 0,.int .i64 0,.string ⟨#[]⟩,.slice none 0 0] ab)] S w',fun t _=>fr+4 - (intOf t).toNat,
  ⟨fr,rfl,aM _,by omega,by rw [qj]; exact hen.symm,hI⟩,?_⟩
 intro t6 _ _ _ _ _ _ _ _ _ _ _ w'
 rintro ⟨j,rfl,hj1,hj2,hj3,hI⟩
 refine ⟨fun t w'=>t=.bool (dig s j && decide (j<fr+4))/\Inv w [] [.blk b4 (.cells #[.int .i64 0,.int .i64 0,.string ⟨#[]⟩,.slice none 0 0] ab)] S w',?_,?_⟩
 ·refine Run.callPure ju jt hI (gB s j S) fun w' hI=>?_
  cases hdj:dig s j
  ·refine rpG ?_
   exact ⟨rfl,hI⟩
  ·refine rpG ?_
   refine bn (by omega) ?_
   refine bL ?_
   refine rpG ?_
   refine ⟨?_,hI⟩
   rw [dU]
   congr 1
   rw [fq]
   omega
 intro t25 _ _ _ _ _ _ _ _ w'
 rintro ⟨rfl,hI⟩
 refine aw (fun hb=>?_) (fun hb=>?_)
 ·rw [bN,bC] at hb
  refine bn (by omega) ?_
  refine ⟨⟨j+1,rfl,by omega,by omega,?_,hI⟩,by simp [intOf]; omega⟩
  rw [<- hj3,show fr+4 - j=(fr+4 - (j+1))+1 by omega,H3,ai hb.1]
 ·have hje:j=en:=by
   rw [<- hj3]
   by_cases h4:j=fr+4
   ·rw [h4,dY]; rfl
   ·rw [show fr+4 - j=(fr+4 - (j+1))+1 by omega,H3,af]
    intro hd
    rw [hd,dU,lM] at hb
    omega
  subst hje
  refine AK aJ (by omega) hens ?_
  refine Run.callPure HL Jb hI (Gw _ hdig hlen0 (by rw [Gr hens]; omega) hc2 S) fun w' hI=>?_
  obtain ⟨n,hn⟩:∃ n,n=Dl (cut s fr j) 0:=⟨_,rfl⟩
  rw [<- hn]
  refine al (v:=.int .i64 (n:Int)) rfl ?_
  refine al (v:=.bool true) rfl ?_
  simp only [<- hn] at hc3 hc4 ⊢
  refine ⟨fun t w'=>t=.bool false/\Inv w [] [.blk b4 (.cells #[.int .i64 0,.int .i64 0,.string ⟨#[]⟩,.slice none 0 0] ab)] S w',?_,?_⟩
  ·refine ct ?_
   refine rpG ?_
   by_cases hfi':i<fr
   ·refine JS (by omega) ?_
    refine rpG ?_
    refine bl ?_
    have:¬ n=0:=fun h=>hc3 ⟨hfi',h⟩
    rw [bg (by omega)]
    refine rpG ?_
    refine ku (by omega) ?_
    refine rpG ?_
    exact ⟨rfl,hI⟩
   ·refine ku (by omega) ?_
    refine rpG ?_
    refine ku (by omega) ?_
    refine rpG ?_
    exact ⟨rfl,hI⟩
  intro t50 _ _ _ _ _ _ _ _ _ _ _ _ _ _ w'
  rintro ⟨rfl,hI⟩
  refine aw (fun hb=>by cases hb) (fun _=>?_)
  refine ⟨fun t w'=>t=.int .i64 (if i<fr then -(n:Int) else n)/\Inv w [] [.blk b4 (.cells #[.int .i64 0,.int .i64 0,.string ⟨#[]⟩,.slice none 0 0] ab)] S w',?_,?_⟩
  ·refine eU ?_
   refine aH (fun hb=>?_) (fun hb=>?_)
   ·refine Rp (by omega) ?_
    exact ⟨by rw [ai (by omega)],hI⟩
   ·exact ⟨by rw [af (by omega)],hI⟩
  intro t8 _ _ _ _ _ w'
  rintro ⟨rfl,hI⟩
  refine Run.callPure sG sM hI (lO _ S) fun w' hI=>?_
  refine aA hI 0 rfl ac rfl rfl (by simp [Value.oneCell']) fun w' hI=>?_
  refine bw hI 0 ac rfl rfl ?_
  exact done hI rfl
end
theorem RdSl.some1 {α:Type} {S:ad} {k:Nat} {R:List Value->α->Prop} {v:Value} {xs:List α} (h:RdSl S k R v xs) (h0:0<xs.length):∃ b o cap,v=.slice (some ⟨b,o,none⟩) xs.length cap:=by
 obtain ⟨b,o,cap,c,E,fz,e,_,_⟩:=h.at_ h0
 exact ⟨b,o,cap,e⟩
theorem Jx (s:Bs) (n e:Nat):zq s (n+1) e=if sml s e=true then zq s n (e+1) else e:=rfl
def Mx (o:Option (Bs × Nat)):Value:=match o with
 | none=>.tuple #[.string ⟨#[]⟩,.int .i64 (-1)]
 | some (n,e)=>.tuple #[.string (st n),.int .i64 (e:Int)]
theorem Ly (s:Bs) (i:Nat) {j:Nat} (h:j<signs.length) (b:Bs):ig s i (signs.drop j) b=ig s i (signs.drop (j+1)) (if decide (i+signs[j].size<=s.length)=true/\cut s i (i+signs[j].size)=bs signs[j]/\b.length<signs[j].size then bs signs[j] else b):=by
 rw [di h,ig]
theorem JG:∀ x∈signs,x.size<=3:=by decide
section
attribute [local irreducible] Run CondV aq aK
theorem vz {s:Bs} {i:Nat} (hi:i<s.length) (hs:s.length<=100000) (S:ad):Pure Tryz.prog Ku [.string (st s),.int .i64 (i:Int)] S (Mx (tU s i)):=by
 intro w hI
 refine yg.2 ?_
 dsimp only[yg,aO]
 obtain ⟨E,hE⟩:∃ E,E=zq s (s.length - i) i:=⟨_,rfl⟩
 have hnm:tU s i=if i+6<E then none else if i<E then some (cut s i E,E) else if ig s i signs []=[] then none else some (ig s i signs [],i+(ig s i signs []).length):=by
  rw [tU,<- hE]
 refine ⟨fun t w'=>∃ e:Nat,t=.int .i64 (e:Int)/\i<=e/\e<=s.length/\zq s (s.length - e) e=E/\Inv w [] [] S w',fun t _=>s.length - (intOf t).toNat,⟨i,rfl,aM _,by omega,hE.symm,hI⟩,?_⟩
 intro t6 _ _ _ _ _ w'
 rintro ⟨e,rfl,he1,he2,he3,hI⟩
 refine Run.callPure uC vS hI (oi s e S) fun w' hI=>?_
 refine aw (fun hb=>?_) (fun hb=>?_)
 ·have hlt:=Bw hb
  refine bn (by omega) ?_
  refine ⟨⟨e+1,rfl,by omega,by omega,?_,hI⟩,by simp [intOf]; omega⟩
  rw [<- he3,show s.length - e=(s.length - (e+1))+1 by omega,Jx,ai hb]
 have heE:e=E:=by
  rw [<- he3]
  by_cases h:e=s.length
  ·rw [h,dY,zq]
  ·rw [show s.length - e=(s.length - (e+1))+1 by omega,Jx,af (by rw [hb]; decide)]
 subst heE
 refine bn (by omega) ?_
 refine eU ?_
 refine aH (fun hb=>done hI (by rw [hnm,ai (by omega)]; rfl)) (fun hb=>?_)
 rw [af (by omega)] at hnm
 refine eU ?_
 refine aH (fun hb=>?_) (fun hb=>?_)
 ·refine AK aJ (by omega) (by omega) ?_
  exact done hI (by rw [hnm,ai (by omega)]; rfl)
 rw [af (by omega)] at hnm
 refine Run.call0 uy tS hI (sk S) fun v I' S1 w'=>?_
 rintro ⟨rfl,hle,hr⟩ _ hI
 obtain ⟨b,o,cap,rfl⟩:=RdSl.some1 hr (by decide)
 refine ⟨fun t u w'=>∃ (j:Nat) (best:Bs),j<=signs.length/\t=.int .i64 (j:Int)/\u=.string (st best)/\best.length<=3/\ig s i (signs.drop j) best=ig s i signs []/\Inv w [] [] S1 w',fun t _ _=>signs.length - (intOf t).toNat,
  ⟨0,[],aR _,rfl,rfl,by simp,rfl,hI.nil⟩,?_⟩
 intro t9 _ _ t7 _ _ _ _ t65 t64 t63 t62 t61 t60 t59 t58 t57 t56 t55 t54 t53 t52 t51 t50 t49 t48 t47 t46 t45 t44 t43 t42 t41 _ _ _ _ _ _ _ _ _ _ w'
 rintro ⟨j,best,hj0,rfl,rfl,hbl,hbest,hI⟩
 have h15:signs.length=15:=rfl
 refine aF hr bM ?_
 refine bL ?_
 refine aH (fun hji=>?_) (fun hji=>?_)
 ·have hj:j<signs.length:=by omega
  obtain ⟨x,hx⟩:∃ x,x=signs[j]:=⟨_,rfl⟩
  have hx3:x.size<=3:=by rw [hx]; exact JG _ (bQ hj)
  obtain ⟨b',o',cap',c,E',fz,hsl,hS,hR⟩:=hr.at_ hj
  cases hsl
  have hcx:c[o+j * 1]?=some (.string x):=by rw [hx]; exact aL hR 0 _ rfl
  rw [Ly s i hj,<- hx] at hbest
  refine ⟨fun u w'=>∃ best',u=.string (st best')/\best'.length<=3/\ig s i (signs.drop (j+1)) best'=ig s i signs []/\Inv w [] [] S1 w',?_,?_⟩
  ·refine aD bM hj ?_
   refine cA aN ((hI.cellS hS).trans hcx) ?_
   refine g8 aJ ?_
   by_cases hlen:i+x.size<=s.length
   ·cases hq:decide (st (cut s i (i+x.size))=x)
    ·skip
     refine ⟨fun D O0 Pg ET CE BK zR Bq Ct B5 BI Eo EV DO Eh DN D6 CD Bn Af Mc Ml MK Mu MQ Hm w_=>Fx D 0 [Hm=.int .i64 (i:Int),MQ=.int .i64 (x.size:Int),Mu=.int .i64 ((i+x.size:Nat):Int),MK=.string (st s),Ml=.int .i64 (s.length:Int),Mc=.bool true,Af=.bool true,Bn=.string (st s),CD=.int .i64 (i:Int),D6=.int .i64 (i:Int),DN=.int .i64 (x.size:Int),Eh=.int .i64 ((i+x.size:Nat):Int),DO=.string (st (cut s i (i+x.size))),EV=.slice (some ⟨b,o,none⟩) signs.length cap,Eo=.int .i64 (j:Int),BI=.pointer (some ⟨b,o+j * 1,none⟩),B5=.string x,Ct=.bool false,Bq=.bool false,zR=.bool false,BK=undef,CE=undef,ET=undef,Pg=undef,O0=.bool false]/\Inv w [] [] S1 w_,⟨Fx.nil _ _,hI.draw⟩,⟨?_,?_,?_,?_,?_,?_,?_,?_,?_,?_,?_,?_,?_,?_,?_,?_,?_,?_,?_,?_,?_,?_,?_,?_,?_,trivial⟩,?_⟩
     all_goals (intro D bI; intros; rename_i O0 Pg ET CE BK zR Bq Ct B5 BI Eo EV DO Eh DN D6 CD Bn Af Mc Ml MK Mu MQ Hm w_ hA_; have hF_:=hA_.1; obtain ⟨⟨cJ,cH,cK,cI,cN,cP,cz,dC,ek,fZ,dr,dM,fj,gN,ic,i9,kF,n4,rH,iZ,vB,uR,vY,xi,HX,_⟩,hI⟩:=hA_)
     ·exact ⟨hF_.set 0 rfl,hI⟩
     ·exact ⟨hF_.set 1 rfl,hI⟩
     ·obtain rfl:=cJ ‹_›
      obtain rfl:=cH ‹_›
      refine bn (by omega) ?_
      exact ⟨hF_.set 2 rfl,hI⟩
     ·exact ⟨hF_.set 3 rfl,hI⟩
     ·obtain rfl:=cI ‹_›
      refine fh aJ ?_
      exact ⟨hF_.set 4 rfl,hI⟩
     ·obtain rfl:=cK ‹_›
      obtain rfl:=cN ‹_›
      refine GN (by omega) ?_
      exact ⟨hF_.set 5 rfl,hI⟩
     ·obtain rfl:=cP ‹_›
      exact ⟨hF_.set 6 rfl,hI⟩
     ·obtain rfl:=cz ‹_›
      refine bx ?_
      exact ⟨hF_.set 7 rfl,hI⟩
     ·obtain rfl:=cz ‹_›
      refine bx ?_
      exact ⟨hF_.set 8 rfl,hI⟩
     ·obtain rfl:=cz ‹_›
      refine bx ?_
      exact ⟨hF_.set 9 rfl,hI⟩
     ·obtain rfl:=cz ‹_›
      refine bx ?_
      exact ⟨hF_.set 10 rfl,hI⟩
     ·obtain rfl:=fZ ‹_›
      obtain rfl:=dr ‹_›
      obtain rfl:=cz ‹_›
      refine bx ?_; refine bn (by omega) ?_
      exact ⟨hF_.set 11 rfl,hI⟩
     ·obtain rfl:=dC ‹_›
      obtain rfl:=ek ‹_›
      obtain rfl:=dM ‹_›
      obtain rfl:=cz ‹_›
      refine bx ?_; refine AK aJ (by omega) (by omega) ?_
      exact ⟨hF_.set 12 rfl,hI⟩
     ·obtain rfl:=cz ‹_›
      refine bx ?_
      exact ⟨hF_.set 13 rfl,hI⟩
     ·obtain rfl:=cz ‹_›
      refine bx ?_
      exact ⟨hF_.set 14 rfl,hI⟩
     ·obtain rfl:=gN ‹_›
      obtain rfl:=ic ‹_›
      obtain rfl:=cz ‹_›
      refine bx ?_; refine aD bM hj ?_
      exact ⟨hF_.set 15 rfl,hI⟩
     ·obtain rfl:=i9 ‹_›
      obtain rfl:=cz ‹_›
      refine bx ?_; refine cA aN ((hI.cellS hS).trans hcx) ?_
      exact ⟨hF_.set 16 rfl,hI⟩
     ·obtain rfl:=fj ‹_›
      obtain rfl:=kF ‹_›
      obtain rfl:=cz ‹_›
      refine bx ?_; refine bt ?_; rw [hq]
      exact ⟨hF_.set 17 rfl,hI⟩
     ·obtain rfl:=cz ‹_›
      obtain rfl:=n4 ‹_›
      refine zW ?_
      exact ⟨hF_.set 18 rfl,hI⟩
     ·obtain rfl:=rH ‹_›
      exact ⟨hF_.set 19 rfl,hI⟩
     ·obtain rfl:=iZ ‹_›
      refine db (c:=false) (b:=true) (by decide) ?_
      exact ⟨hF_.set 20 rfl,hI⟩
     ·obtain rfl:=iZ ‹_›
      refine db (c:=false) (b:=true) (by decide) ?_
      exact ⟨hF_.set 21 rfl,hI⟩
     ·obtain rfl:=uR ‹_›
      obtain rfl:=iZ ‹_›
      refine db (c:=false) (b:=true) (by decide) ?_
      exact ⟨hF_.set 22 rfl,hI⟩
     ·obtain rfl:=vB ‹_›
      obtain rfl:=vY ‹_›
      obtain rfl:=iZ ‹_›
      refine db (c:=false) (b:=true) (by decide) ?_
      exact ⟨hF_.set 23 rfl,hI⟩
     ·obtain rfl:=iZ ‹_›
      obtain rfl:=xi ‹_›
      refine rm ?_
      exact ⟨hF_.set 24 rfl,hI⟩
     obtain ⟨rfl,rfl,rfl,rfl,rfl,rfl,rfl,rfl,rfl,rfl,rfl,rfl,rfl,rfl,rfl,rfl,rfl,rfl,rfl,rfl,rfl,rfl,rfl,rfl,rfl,_⟩:=hF_.all
     clear hF_ cJ cH cK cI cN cP cz dC ek fZ dr dM fj gN ic i9 kF n4 rH iZ vB uR vY xi HX
     refine aw (fun hb=>by cases hb) (fun _=>?_)
     refine ⟨best,rfl,hbl,?_,hI⟩
     rw [af] at hbest
     ·exact hbest
     ·rintro ⟨_,h2,_⟩
      rw [lM] at hq
      exact hq (by rw [h2])
    ·rw [bC] at hq
     have hq':=hq
     have hq:decide (st (cut s i (i+x.size))=x)=true:=aS hq'
     skip
     refine ⟨fun D O0 Pg ET CE BK zR Bq Ct B5 BI Eo EV DO Eh DN D6 CD Bn Af Mc Ml MK Mu MQ Hm w_=>Fx D 0 [Hm=.int .i64 (i:Int),MQ=.int .i64 (x.size:Int),Mu=.int .i64 ((i+x.size:Nat):Int),MK=.string (st s),Ml=.int .i64 (s.length:Int),Mc=.bool true,Af=.bool true,Bn=.string (st s),CD=.int .i64 (i:Int),D6=.int .i64 (i:Int),DN=.int .i64 (x.size:Int),Eh=.int .i64 ((i+x.size:Nat):Int),DO=.string (st (cut s i (i+x.size))),EV=.slice (some ⟨b,o,none⟩) signs.length cap,Eo=.int .i64 (j:Int),BI=.pointer (some ⟨b,o+j * 1,none⟩),B5=.string x,Ct=.bool true,Bq=.bool true,zR=.bool true,BK=.int .i64 (x.size:Int),CE=.string (st best),ET=.int .i64 (best.length:Int),Pg=.bool (decide ((best.length:Int)<(x.size:Int))),O0=.bool (decide ((best.length:Int)<(x.size:Int)))]/\Inv w [] [] S1 w_,⟨Fx.nil _ _,hI.draw⟩,⟨?_,?_,?_,?_,?_,?_,?_,?_,?_,?_,?_,?_,?_,?_,?_,?_,?_,?_,?_,?_,?_,?_,?_,?_,?_,trivial⟩,?_⟩
     all_goals (intro D bI; intros; rename_i O0 Pg ET CE BK zR Bq Ct B5 BI Eo EV DO Eh DN D6 CD Bn Af Mc Ml MK Mu MQ Hm w_ hA_; have hF_:=hA_.1; obtain ⟨⟨cJ,cH,cK,cI,cN,cP,cz,dC,ek,fZ,dr,dM,fj,gN,ic,i9,kF,n4,rH,iZ,vB,uR,vY,xi,HX,_⟩,hI⟩:=hA_)
     ·exact ⟨hF_.set 0 rfl,hI⟩
     ·exact ⟨hF_.set 1 rfl,hI⟩
     ·obtain rfl:=cJ ‹_›
      obtain rfl:=cH ‹_›
      refine bn (by omega) ?_
      exact ⟨hF_.set 2 rfl,hI⟩
     ·exact ⟨hF_.set 3 rfl,hI⟩
     ·obtain rfl:=cI ‹_›
      refine fh aJ ?_
      exact ⟨hF_.set 4 rfl,hI⟩
     ·obtain rfl:=cK ‹_›
      obtain rfl:=cN ‹_›
      refine GN (by omega) ?_
      exact ⟨hF_.set 5 rfl,hI⟩
     ·obtain rfl:=cP ‹_›
      exact ⟨hF_.set 6 rfl,hI⟩
     ·obtain rfl:=cz ‹_›
      refine bx ?_
      exact ⟨hF_.set 7 rfl,hI⟩
     ·obtain rfl:=cz ‹_›
      refine bx ?_
      exact ⟨hF_.set 8 rfl,hI⟩
     ·obtain rfl:=cz ‹_›
      refine bx ?_
      exact ⟨hF_.set 9 rfl,hI⟩
     ·obtain rfl:=cz ‹_›
      refine bx ?_
      exact ⟨hF_.set 10 rfl,hI⟩
     ·obtain rfl:=fZ ‹_›
      obtain rfl:=dr ‹_›
      obtain rfl:=cz ‹_›
      refine bx ?_; refine bn (by omega) ?_
      exact ⟨hF_.set 11 rfl,hI⟩
     ·obtain rfl:=dC ‹_›
      obtain rfl:=ek ‹_›
      obtain rfl:=dM ‹_›
      obtain rfl:=cz ‹_›
      refine bx ?_; refine AK aJ (by omega) (by omega) ?_
      exact ⟨hF_.set 12 rfl,hI⟩
     ·obtain rfl:=cz ‹_›
      refine bx ?_
      exact ⟨hF_.set 13 rfl,hI⟩
     ·obtain rfl:=cz ‹_›
      refine bx ?_
      exact ⟨hF_.set 14 rfl,hI⟩
     ·obtain rfl:=gN ‹_›
      obtain rfl:=ic ‹_›
      obtain rfl:=cz ‹_›
      refine bx ?_; refine aD bM hj ?_
      exact ⟨hF_.set 15 rfl,hI⟩
     ·obtain rfl:=i9 ‹_›
      obtain rfl:=cz ‹_›
      refine bx ?_; refine cA aN ((hI.cellS hS).trans hcx) ?_
      exact ⟨hF_.set 16 rfl,hI⟩
     ·obtain rfl:=fj ‹_›
      obtain rfl:=kF ‹_›
      obtain rfl:=cz ‹_›
      refine bx ?_; refine bt ?_; rw [hq]
      exact ⟨hF_.set 17 rfl,hI⟩
     ·obtain rfl:=cz ‹_›
      obtain rfl:=n4 ‹_›
      refine zW ?_
      exact ⟨hF_.set 18 rfl,hI⟩
     ·obtain rfl:=rH ‹_›
      exact ⟨hF_.set 19 rfl,hI⟩
     ·obtain rfl:=iZ ‹_›
      refine bx ?_
      exact ⟨hF_.set 20 rfl,hI⟩
     ·obtain rfl:=iZ ‹_›
      refine bx ?_
      exact ⟨hF_.set 21 rfl,hI⟩
     ·obtain rfl:=uR ‹_›
      obtain rfl:=iZ ‹_›
      refine bx ?_; refine fh aJ ?_
      exact ⟨hF_.set 22 rfl,hI⟩
     ·obtain rfl:=vB ‹_›
      obtain rfl:=vY ‹_›
      obtain rfl:=iZ ‹_›
      refine bx ?_; refine eU ?_
      exact ⟨hF_.set 23 rfl,hI⟩
     ·obtain rfl:=iZ ‹_›
      obtain rfl:=xi ‹_›
      refine zW ?_
      exact ⟨hF_.set 24 rfl,hI⟩
     obtain ⟨rfl,rfl,rfl,rfl,rfl,rfl,rfl,rfl,rfl,rfl,rfl,rfl,rfl,rfl,rfl,rfl,rfl,rfl,rfl,rfl,rfl,rfl,rfl,rfl,rfl,_⟩:=hF_.all
     clear hF_ cJ cH cK cI cN cP cz dC ek fZ dr dM fj gN ic i9 kF n4 rH iZ vB uR vY xi HX
     have hcut:cut s i (i+x.size)=bs x:=by rw [<- D9 (cut s i (i+x.size)),hq']
     refine aH (fun hb=>?_) (fun hb=>?_)
     ·refine aD bM hj ?_
      refine cA aN ((hI.cellS hS).trans hcx) ?_
      refine ⟨bs x,rfl,by rw [<- hcut,Gr hlen]; omega,?_,hI⟩
      rw [ai ⟨aS hlen,hcut,by omega⟩] at hbest
      exact hbest
     ·refine ⟨best,rfl,hbl,?_,hI⟩
      rw [af] at hbest
      ·exact hbest
      ·rintro ⟨_,_,h3⟩
       omega
   ·skip
    refine ⟨fun D O0 Pg ET CE BK zR Bq Ct B5 BI Eo EV DO Eh DN D6 CD Bn Af Mc Ml MK Mu MQ Hm w_=>Fx D 0 [Hm=.int .i64 (i:Int),MQ=.int .i64 (x.size:Int),Mu=.int .i64 ((i+x.size:Nat):Int),MK=.string (st s),Ml=.int .i64 (s.length:Int),Mc=.bool false,Af=.bool false,Bn=undef,CD=undef,D6=undef,DN=undef,Eh=undef,DO=undef,EV=undef,Eo=undef,BI=undef,B5=undef,Ct=undef,Bq=.bool false,zR=.bool false,BK=undef,CE=undef,ET=undef,Pg=undef,O0=.bool false]/\Inv w [] [] S1 w_,⟨Fx.nil _ _,hI.draw⟩,⟨?_,?_,?_,?_,?_,?_,?_,?_,?_,?_,?_,?_,?_,?_,?_,?_,?_,?_,?_,?_,?_,?_,?_,?_,?_,trivial⟩,?_⟩
    all_goals (intro D bI; intros; rename_i O0 Pg ET CE BK zR Bq Ct B5 BI Eo EV DO Eh DN D6 CD Bn Af Mc Ml MK Mu MQ Hm w_ hA_; have hF_:=hA_.1; obtain ⟨⟨cJ,cH,cK,cI,cN,cP,cz,dC,ek,fZ,dr,dM,fj,gN,ic,i9,kF,n4,rH,iZ,vB,uR,vY,xi,HX,_⟩,hI⟩:=hA_)
    ·exact ⟨hF_.set 0 rfl,hI⟩
    ·exact ⟨hF_.set 1 rfl,hI⟩
    ·obtain rfl:=cJ ‹_›
     obtain rfl:=cH ‹_›
     refine bn (by omega) ?_
     exact ⟨hF_.set 2 rfl,hI⟩
    ·exact ⟨hF_.set 3 rfl,hI⟩
    ·obtain rfl:=cI ‹_›
     refine fh aJ ?_
     exact ⟨hF_.set 4 rfl,hI⟩
    ·obtain rfl:=cK ‹_›
     obtain rfl:=cN ‹_›
     refine On (by omega) ?_
     exact ⟨hF_.set 5 rfl,hI⟩
    ·obtain rfl:=cP ‹_›
     exact ⟨hF_.set 6 rfl,hI⟩
    ·obtain rfl:=cz ‹_›
     refine db (c:=false) (b:=true) (by decide) ?_
     exact ⟨hF_.set 7 rfl,hI⟩
    ·obtain rfl:=cz ‹_›
     refine db (c:=false) (b:=true) (by decide) ?_
     exact ⟨hF_.set 8 rfl,hI⟩
    ·obtain rfl:=cz ‹_›
     refine db (c:=false) (b:=true) (by decide) ?_
     exact ⟨hF_.set 9 rfl,hI⟩
    ·obtain rfl:=cz ‹_›
     refine db (c:=false) (b:=true) (by decide) ?_
     exact ⟨hF_.set 10 rfl,hI⟩
    ·obtain rfl:=fZ ‹_›
     obtain rfl:=dr ‹_›
     obtain rfl:=cz ‹_›
     refine db (c:=false) (b:=true) (by decide) ?_
     exact ⟨hF_.set 11 rfl,hI⟩
    ·obtain rfl:=dC ‹_›
     obtain rfl:=ek ‹_›
     obtain rfl:=dM ‹_›
     obtain rfl:=cz ‹_›
     refine db (c:=false) (b:=true) (by decide) ?_
     exact ⟨hF_.set 12 rfl,hI⟩
    ·obtain rfl:=cz ‹_›
     refine db (c:=false) (b:=true) (by decide) ?_
     exact ⟨hF_.set 13 rfl,hI⟩
    ·obtain rfl:=cz ‹_›
     refine db (c:=false) (b:=true) (by decide) ?_
     exact ⟨hF_.set 14 rfl,hI⟩
    ·obtain rfl:=gN ‹_›
     obtain rfl:=ic ‹_›
     obtain rfl:=cz ‹_›
     refine db (c:=false) (b:=true) (by decide) ?_
     exact ⟨hF_.set 15 rfl,hI⟩
    ·obtain rfl:=i9 ‹_›
     obtain rfl:=cz ‹_›
     refine db (c:=false) (b:=true) (by decide) ?_
     exact ⟨hF_.set 16 rfl,hI⟩
    ·obtain rfl:=fj ‹_›
     obtain rfl:=kF ‹_›
     obtain rfl:=cz ‹_›
     refine db (c:=false) (b:=true) (by decide) ?_
     exact ⟨hF_.set 17 rfl,hI⟩
    ·obtain rfl:=cz ‹_›
     obtain rfl:=n4 ‹_›
     refine rm ?_
     exact ⟨hF_.set 18 rfl,hI⟩
    ·obtain rfl:=rH ‹_›
     exact ⟨hF_.set 19 rfl,hI⟩
    ·obtain rfl:=iZ ‹_›
     refine db (c:=false) (b:=true) (by decide) ?_
     exact ⟨hF_.set 20 rfl,hI⟩
    ·obtain rfl:=iZ ‹_›
     refine db (c:=false) (b:=true) (by decide) ?_
     exact ⟨hF_.set 21 rfl,hI⟩
    ·obtain rfl:=uR ‹_›
     obtain rfl:=iZ ‹_›
     refine db (c:=false) (b:=true) (by decide) ?_
     exact ⟨hF_.set 22 rfl,hI⟩
    ·obtain rfl:=vB ‹_›
     obtain rfl:=vY ‹_›
     obtain rfl:=iZ ‹_›
     refine db (c:=false) (b:=true) (by decide) ?_
     exact ⟨hF_.set 23 rfl,hI⟩
    ·obtain rfl:=iZ ‹_›
     obtain rfl:=xi ‹_›
     refine rm ?_
     exact ⟨hF_.set 24 rfl,hI⟩
    obtain ⟨rfl,rfl,rfl,rfl,rfl,rfl,rfl,rfl,rfl,rfl,rfl,rfl,rfl,rfl,rfl,rfl,rfl,rfl,rfl,rfl,rfl,rfl,rfl,rfl,rfl,_⟩:=hF_.all
    clear hF_ cJ cH cK cI cN cP cz dC ek fZ dr dM fj gN ic i9 kF n4 rH iZ vB uR vY xi HX
    refine aw (fun hb=>by cases hb) (fun _=>?_)
    refine ⟨best,rfl,hbl,?_,hI⟩
    rw [af] at hbest
    ·exact hbest
    ·rintro ⟨h1,_⟩
     rw [bC] at h1
     exact hlen h1
  intro t7 _ _ _ _ _ _ _ _ _ _ _ _ _ _ _ _ _ _ _ _ _ _ _ _ _ _ _ _ _ _ _ _ _ _ _ w'
  rintro ⟨best',rfl,hbl',hb',hI⟩
  refine bn (by omega) ?_
  exact ⟨⟨j+1,best',hj,rfl,rfl,hbl',hb',hI⟩,by simp [intOf]; omega⟩
 ·have:j=signs.length:=by omega
  subst this
  rw [dP,ig] at hbest
  rw [<- hbest] at hnm
  refine bt ?_
  refine aH (fun hb=>?_) (fun hb=>?_)
  ·have:best=[]:=by rw [<- D9 best,hb]
   exact kC hI hle (by rw [hnm,ai this]; rfl)
  ·have:¬ best=[]:=fun h=>hb (by rw [h])
   refine fh aJ ?_
   refine bn (by omega) ?_
   exact kC hI hle (by rw [hnm,af this]; rfl)
end
theorem wW (s:Bs) (i:Nat):∀ (l:List ByteArray) (b:Bs),(∀ x∈l,x.size<=3)->b.length<=3->i+b.length<=s.length->i+(ig s i l b).length<=s.length/\(ig s i l b).length<=3
 | [],b,_,h2,h3=>⟨h3,h2⟩
 | x::l,b,h1,h2,h3=>by
  rw [ig]
  have hx:(bs x).length=x.size:=KY
  split
  ·rename_i h
   exact wW s i l _ (fun y hy=>h1 y (bv _ hy)) (by rw [hx]; exact h1 x (bq ..)) (by rw [hx]; exact of_decide_eq_true h.1)
  ·exact wW s i l _ (fun y hy=>h1 y (bv _ hy)) h2 h3
theorem Mj (s:Bs):∀ (n e:Nat),e<=zq s n e/\zq s n e<=e+n
 | 0,e=>by simp [zq]
 | n+1,e=>by
  rw [zq]
  split
  ·have:=Mj s n (e+1); omega
  ·omega
theorem uW {s:Bs} {i:Nat} {n:Bs} {e:Nat} (hi:i<s.length) (h:tU s i=some (n,e)):i<e/\e<=s.length/\n.length<=6/\n≠[]:=by
 have hl:=Mj s (s.length - i) i
 have hb:=wW s i signs [] JG (by simp) (by simpa using Nat.le_of_lt hi)
 unfold tU at h
 simp only [] at h
 split at h
 ·cases h
 ·split at h
  ·simp only [aT,cL] at h
   obtain ⟨rfl,rfl⟩:=h
   rename_i h1 h2
   have hc:=Gr (s:=s) (a:=i) (b:=zq s (s.length - i) i) (by omega)
   refine ⟨h2,by omega,by omega,fun h=>?_⟩
   rw [h] at hc
   simp at hc
   omega
  ·split at h
   ·cases h
   ·simp only [aT,cL] at h
    obtain ⟨rfl,rfl⟩:=h
    rename_i h3
    have:0<(ig s i signs []).length:=by
     cases he:ig s i signs [] with
     | nil=>exact absurd he h3
     | cons a l=>simp
    exact ⟨by omega,by omega,by omega,h3⟩
def opV (o:Option (Bs × Nat)) (i:Nat):Value:=match o with
 | none=>.tuple #[.string ⟨#[]⟩,.int .i64 (i:Int)]
 | some (n,e)=>.tuple #[.string (st n),.int .i64 (e:Int)]
theorem Pp {s:Bs} {i:Nat} {n:Bs} {e:Nat} (h:opF s i=some (n,e)):i<e/\e<=s.length/\n.length<=6/\n≠[]:=by
 unfold opF at h
 obtain ⟨fr,hfr⟩:∃ fr,fr=if sgn s i 32=true then i+1 else i:=⟨_,rfl⟩
 simp only [<- hfr] at h
 have hfi:i<=fr:=by rw [hfr]; split <;> omega
 split at h
 ·cases h
 rename_i hlt
 split at h
 ·cases h
 rename_i nm nx hnm
 obtain ⟨h1,h2,h3,h4⟩:=uW (by omega) hnm
 split at h
 ·cases h
 rename_i hc
 simp only [not_or,not_and,Bool.not_eq_false] at hc
 simp only [aT,cL] at h
 obtain ⟨rfl,rfl⟩:=h
 refine ⟨by split <;> omega,?_,h3,h4⟩
 split
 ·rename_i hw
  have:=ib (hc.2.2 hw)
  omega
 ·exact h2
section
attribute [local irreducible] Run CondV aq aK
theorem Lz {s:Bs} {i:Nat} (hs:s.length<=100000) (hi:i<=s.length) (S:ad):Pure Tryz.prog Oz [.string (st s),.int .i64 (i:Int)] S (opV (opF s i) i):=by
 intro w hI
 refine Ex.2 ?_
 dsimp only[Ex,aO]
 obtain ⟨fr,hfr⟩:∃ fr,fr=if sgn s i 32=true then i+1 else i:=⟨_,rfl⟩
 have hfi:i<=fr/\fr<=i+1:=by rw [hfr]; split <;> omega
 obtain ⟨r,hr⟩:∃ r,r=opF s i:=⟨_,rfl⟩
 rw [<- hr]
 unfold opF at hr
 simp only [<- hfr] at hr
 refine ⟨fun t w'=>t=.int .i64 (fr:Int)/\Inv w [] [] S w',?_,?_⟩
 ·refine Run.callPure cF cG hI (cu s i 32 S) fun w' hI=>?_
  refine aw (fun hb=>?_) (fun hb=>?_)
  ·refine bn (by omega) ?_
   rw [ai hb] at hfr
   exact ⟨by rw [hfr]; congr 1,hI⟩
  ·rw [af (by rw [hb]; decide)] at hfr
   exact ⟨by rw [hfr],hI⟩
 intro t6 _ _ _ _ _ w'
 rintro ⟨rfl,hI⟩
 refine fh aJ ?_
 refine kX ?_
 refine aH (fun hb=>?_) (fun hb=>?_)
 ·rw [ai (by omega)] at hr
  exact done hI (by rw [hr]; rfl)
 rw [af (by omega)] at hr
 refine Run.callPure y9 xR hI (vz (by omega) hs S) fun w' hI=>?_
 cases hnm:tU s fr with
 | none=>
  rw [hnm] at hr
  simp only [] at hr
  simp only [Mx]
  refine al rfl ?_
  refine al rfl ?_
  refine ⟨fun t w'=>t=.bool true/\Inv w [] [] S w',?_,?_⟩
  ·refine BA (by omega) ?_
   refine rpG ?_
   exact ⟨rfl,hI⟩
  intro t33 _ _ _ _ _ _ w'
  rintro ⟨rfl,hI⟩
  exact aw (fun _=>done hI (by rw [hr]; rfl)) (fun hb=>by cases hb)
 | some q=>
  obtain ⟨nm,nx⟩:=q
  rw [hnm] at hr
  simp only [] at hr
  obtain ⟨h1,h2,h3,h4⟩:=uW (by omega) hnm
  simp only [Mx]
  refine al (v:=.string (st nm)) rfl ?_
  refine al (v:=.int .i64 (nx:Int)) rfl ?_
  refine ⟨fun t w'=>t=.bool (decide (bV (st nm)=0))/\Inv w [] [] S w',?_,?_⟩
  ·refine eA (by omega) ?_
   refine rpG ?_
   refine Run.callPure eY fe hI (dK _ S) fun w' hI=>?_
   refine bl ?_
   refine rpG ?_
   exact ⟨rfl,hI⟩
  intro t33 _ _ _ _ _ _ w'
  rintro ⟨rfl,hI⟩
  refine aH (fun hb=>?_) (fun hb=>?_)
  ·rw [ai (.inl hb)] at hr
   exact done hI (by rw [hr]; rfl)
  obtain ⟨word,hword⟩:∃ word,word=(decide (nm=[105,115]) || decide (nm=[109,111,100])):=⟨_,rfl⟩
  rw [<- hword] at hr
  refine ⟨fun t w'=>t=.bool word/\Inv w [] [] S w',?_,?_⟩
  ·refine Bp (b:=[105,115]) ?_
   cases h5:decide (nm=[105,115])
   ·refine rpG ?_
    refine Bp (b:=[109,111,100]) ?_
    refine rpG ?_
    exact ⟨by rw [hword,h5,gc],hI⟩
   ·refine rpG ?_
    exact ⟨by rw [hword,h5,uV],hI⟩
  intro t9 _ _ _ _ _ _ w'
  rintro ⟨rfl,hI⟩
  refine ⟨fun t w'=>t=.bool (decide (word≠decide (i<fr)) || (word && !sgn s nx 32))/\Inv w [] [] S w',?_,?_⟩
  ·refine eU ?_
   refine Ou zX ?_
   have e1:decide ((i:Int)<(fr:Int))=decide (i<fr):=by rw [fq]; omega
   rw [e1]
   cases h6:decide (i<fr) <;> cases word
   ·refine rpG ?_
    exact ⟨by rfl,hI⟩
   ·refine rpG ?_
    exact ⟨by rfl,hI⟩
   ·refine rpG ?_
    exact ⟨by rfl,hI⟩
   ·refine rpG ?_
    refine Run.callPure cF cG hI (cu s nx 32 S) fun w' hI=>?_
    refine ct ?_
    refine rpG ?_
    exact ⟨by simp,hI⟩
  intro t54 _ _ _ _ _ _ _ _ _ _ _ _ _ w'
  rintro ⟨rfl,hI⟩
  refine aw (fun hb'=>?_) (fun hb'=>?_)
  ·rw [ai] at hr
   ·exact done hI (by rw [hr]; rfl)
   ·rw [iS,bC,bN,oN] at hb'
    exact .inr hb'
  ·rw [af] at hr
   ·refine ⟨fun t w'=>t=.int .i64 ((if word=true then nx+1 else nx:Nat):Int)/\Inv w [] [] S w',?_,?_⟩
    ·refine aw (fun hw=>?_) (fun hw=>?_)
     ·refine bn (by omega) ?_
      exact ⟨by rw [ai hw]; congr 1,hI⟩
     ·exact ⟨by rw [af (by rw [hw]; decide)],hI⟩
    intro t8 _ _ _ w'
    rintro ⟨rfl,hI⟩
    exact done hI (by rw [hr]; rfl)
   ·rw [Mq,lM] at hb'
    rintro (h|h|⟨h,h'⟩)
    ·exact hb h
    ·exact hb'.1 h
    ·rw [h,h'] at hb'
     simp at hb'
end
end
end Go.Proofs.YtcpgagfdeflbkaaGreatDoor
