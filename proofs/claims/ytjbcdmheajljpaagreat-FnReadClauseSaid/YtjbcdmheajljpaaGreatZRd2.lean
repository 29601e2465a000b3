/- Plain functions: texts of terms and clauses, and how texts are read. Fuel runs out: none. -/
import Derived.Test.YtjbcdmheajljpaaGreatZRdA
import Derived.Test.YtjbcdmheajljpaaGreatZRd1
namespace Go.Proofs.YtjbcdmheajljpaaGreat
attribute [local irreducible] Run CondV aI bg
section
open Go Go.RowKit

abbrev Bs:=List UInt8
abbrev bs (s:ByteArray):Bs:=s.data.toList
abbrev st (l:Bs):ByteArray:=⟨l.toArray⟩
theorem LJ (s:ByteArray):st (bs s)=s:=rfl
theorem HI (l:Bs):bs (st l)=l:=by simp [bs]
theorem lj (l:Bs):(st l).size=l.length:=by simp [ByteArray.size]

def sgn (s:Bs) (i:Nat) (c:Nat):Bool:=match s[i]? with
 | some b=>decide (b.toNat=c)
 | none=>false
def btw (s:Bs) (i:Nat) (a b:Nat):Bool:=match s[i]? with
 | some x=>decide (a<=x.toNat) && decide (x.toNat<=b)
 | none=>false
def sml (s:Bs) (i:Nat):Bool:=btw s i 97 122
def dig (s:Bs) (i:Nat):Bool:=btw s i 48 57
def upp (s:Bs) (i:Nat):Bool:=btw s i 65 90
def cut (s:Bs) (a b:Nat):Bs:=(s.take b).drop a

def Dj (s:Bs):Nat->Nat->Nat
 | 0,e=>e
 | n+1,e=>if sml s e=true then Dj s n (e+1) else e
def kC (s:Bs) (i:Nat):List ByteArray->Bs->Bs
 | [],b=>b
 | x::l,b=>kC s i l (if decide (i+x.size<=s.length)=true/\cut s i (i+x.size)=bs x/\b.length<x.size then bs x else b)
def xO (s:Bs) (i:Nat):Option (Bs × Nat):=
 let e:=Dj s (s.length - i) i
 if i+6<e then none else if i<e then some (cut s i e,e) else
  let b:=kC s i signs []
  if b=[] then none else some (b,i+b.length)
def uB (s:Bs):Nat->Nat->Nat
 | 0,e=>e
 | n+1,e=>if dig s e=true then uB s n (e+1) else e
def GL:Bs->Nat->Nat
 | [],n=>n
 | b::l,n=>GL l (n * 10+(b.toNat - 48))
def TV (s:Bs) (i:Nat):Option (T × Nat):=
 let from_:=if sgn s i 45=true then i+1 else i
 let e:=uB s 4 from_
 let d:=cut s from_ e
 let n:=GL d 0
 if d=[] ∨ (sgn d 0 48=true/\1<d.length) ∨ (i<from_/\n=0) ∨ 999<n then none
 else some (.mk 2 (if i<from_ then -(n:Int) else n) emptyB [],e)
def M5 (name:Bs) (kids:List T):T:=.mk 3 0 (st name) kids
def XT:T:=M5 [91,93] []
def NU (a b:T):T:=M5 [46] [a,b]
def kM:List T->T->T
 | [],t=>t
 | a::l,t=>NU a (kM l t)
def opF (s:Bs) (i:Nat):Option (Bs × Nat):=
 let from_:=if sgn s i 32=true then i+1 else i
 if s.length<=from_ then none else match xO s from_ with
  | none=>none
  | some (name,next)=>
   let word:=decide (name=[105,115]) || decide (name=[109,111,100])
   if dA (st name)=0 ∨ word≠decide (i<from_) ∨ (word=true/\sgn s next 32=false) then none
   else some (name,if word=true then next+1 else next)
mutual
def lR:Nat->Bs->Nat->Nat->Nat->Option (T × Nat)
 | 0,_,_,_,_=>none
 | f+1,s,i,d,0=>v4 f s i d
 | f+1,s,i,d,l+1=>match lR f s i d l with
  | none=>none
  | some (t,n)=>LM f s n d l t
def LM:Nat->Bs->Nat->Nat->Nat->T->Option (T × Nat)
 | 0,_,_,_,_,_=>none
 | f+1,s,i,d,l,t=>match opF s i with
  | none=>some (t,i)
  | some (name,after)=>if dA (st name)=((l+1:Nat):Int) then match lR f s after d l with
    | none=>none
    | some (r,e)=>if l=2 then some (M5 name [t,r],e) else LM f s e d l (M5 name [t,r])
   else some (t,i)
def v4:Nat->Bs->Nat->Nat->Option (T × Nat)
 | 0,_,_,_=>none
 | f+1,s,i,d=>if d=0 ∨ s.length<=i then none else if sgn s i 40=true then match lR f s (i+1) d 3 with
    | none=>none
    | some (t,n)=>if sgn s n 41=true then some (t,n+1) else none
  else if sgn s i 91=true/\sgn s (i+1) 93=false then match j3 f s (i+1) (d - 1) 93 124 [] with
    | none=>none
    | some (ts,n)=>if sgn s n 93=true then some (kM ts XT,n+1) else match lR f s (n+1) (d - 1) 3 with
     | none=>none
     | some (t,e)=>if sgn s e 93=true then some (kM ts t,e+1) else none
  else if upp s i=true then some (.mk 1 ((s.getD i 0).toNat - 65) emptyB [],i+1)
  else if dig s i=true ∨ (sgn s i 45=true/\dig s (i+1)=true) then TV s i
  else match xO s i with
   | none=>none
   | some (name,n)=>if sgn s n 40=false then some (M5 name [],n) else match j3 f s (n+1) (d - 1) 41 41 [] with
    | none=>none
    | some (ts,e)=>some (M5 name ts,e+1)
def j3:Nat->Bs->Nat->Nat->Nat->Nat->List T->Option (List T × Nat)
 | 0,_,_,_,_,_,_=>none
 | f+1,s,i,d,e,o,acc=>match lR f s i d 3 with
  | none=>none
  | some (t,n)=>if sgn s n e=true ∨ sgn s n o=true then some (acc++[t],n) else if sgn s n 44=true then j3 f s (n+1) d e o (acc++[t]) else none
end

def qk (t:T):Bool:=decide (t.kind=3) && (decide (t.kids.length=2) && decide (0<dA t.name))
def Fd (t:T):Bool:=decide (t.kind=3) && (decide (t.name=st [46]) && decide (t.kids.length=2))
def UG (t:T):Bool:=decide (t.kind=3) && (decide (t.name=st [91,93]) && decide (t.kids.length=0))
def CY (t:T):Bool:=decide (t.kind=3) && (decide (t.kids.length=0) && decide (0<dA t.name))
def Ki (s:Bs):Bool:=sml s 0 || (dig s 0 || (upp s 0 || (sgn s 0 91 || sgn s 0 40)))
def j0 (n:Bs):Bs:=if n=[105,115] ∨ n=[109,111,100] then 32::(n++[32]) else n
def Ap:Nat->Nat->Bs->Option Bs
 | 0,_,_=>none
 | f+1,n,out=>if 9<n then Ap f (n / 10) (UInt8.ofNat (48+n % 10)::out) else some (UInt8.ofNat (48+n)::out)
def U8 (n:Int):Option Bs:=if n<0 then (Ap 20 (-n).toNat []).map fun l=>45::l else Ap 20 n.toNat []
def VD (t:T):Option Bs:=if t.kind=1 then (if 0<=t.n/\t.n<=25 then some [UInt8.ofNat (65+t.n.toNat)] else none)
 else if t.kind=2 then (if -999<=t.n/\t.n<=999 then U8 t.n else none) else if t.kids.length=0 then some (bs t.name) else none
mutual
def Lx:Nat->T->Option Bs
 | 0,_=>none
 | f+1,t=>if Fd t=true then Ig f t [] else if qk t=true then match t.kids with
   | [a,b]=>match Q1 f a (if dA t.name=3 then 2 else dA t.name),JO f b (dA t.name - 1) with
    | some x,some y=>some (x++j0 (bs t.name)++y)
    | _,_=>none
   | _=>none
  else if t.kind=3/\0<t.kids.length then match qY f t.kids [] with
   | some x=>some (bs t.name++[40]++x++[41])
   | none=>none
  else VD t
def Ig:Nat->T->List T->Option Bs
 | 0,_,_=>none
 | f+1,t,items=>if Fd t=true then match t.kids with
   | [a,b]=>Ig f b (items++[a])
   | _=>none
  else match qY f items [] with
   | none=>none
   | some x=>if UG t=true then some ([91]++x++[93]) else match Lx f t with
    | none=>none
    | some y=>some ([91]++x++[124]++y++[93])
def qY:Nat->List T->Bs->Option Bs
 | 0,_,_=>none
 | _+1,[],out=>some out
 | f+1,t::l,out=>match Lx f t with
  | none=>none
  | some x=>qY f l (out++x++(if l=[] then [] else [44]))
def r5:Nat->T->Int->Option Bs
 | 0,_,_=>none
 | f+1,t,l=>match Lx f t with
  | none=>none
  | some x=>some (if qk t=true/\l<dA t.name then [40]++x++[41] else x)
def Q1:Nat->T->Int->Option Bs
 | 0,_,_=>none
 | f+1,t,l=>if CY t=true then match Lx f t with
   | none=>none
   | some x=>some ([40]++x++[41])
  else r5 f t l
def JO:Nat->T->Int->Option Bs
 | 0,_,_=>none
 | f+1,t,l=>match r5 f t l with
  | none=>none
  | some x=>if x=[] then none else some (if CY t=true ∨ Ki x=false then [40]++x++[41] else x)
end
def Bx (f:Nat):List T->Bool->Bs->Option Bs
 | [],_,out=>some out
 | t::l,first,out=>match Lx f t with
  | none=>none
  | some x=>Bx f l false (out++(if first=true then [58,45] else [44])++x)
def Rm (f:Nat) (c:C):Option Bs:=match Lx f c.head with
 | none=>none
 | some x=>match Bx f c.body true x with
  | none=>none
  | some y=>some (y++[46])

def wb (f:Nat):Nat->Bs->Nat->List T->Option (List T × Nat)
 | 0,_,_,_=>none
 | k+1,s,i,acc=>if 6<acc.length then none else match lR f s i 30 3 with
  | none=>none
  | some (t,n)=>if sgn s n 44=true then wb f k s (n+1) (acc++[t]) else some (acc++[t],n)
def Su (f:Nat) (s:Bs) (c:C) (n:Nat):Option C:=
 if n+1=s.length/\sgn s n 46=true/\aZ c=true/\wC c<=200/\Rm f c=some s then some c else none
def yH (f:Nat) (s:Bs):Option C:=if 1000<s.length then none else match lR f s 0 30 3 with
 | none=>none
 | some (h,n)=>if sgn s n 58=true/\sgn s (n+1) 45=true then match wb f 8 s (n+2) [] with
   | none=>none
   | some (b,n2)=>Su f s ⟨h,b⟩ n2
  else Su f s ⟨h,[]⟩ n
def Hf (s:Bs) (c:Nat):Nat->Nat->Nat->List Bs->List Bs
 | 0,i,from_,acc=>acc++[cut s from_ i]
 | n+1,i,from_,acc=>if sgn s i c=true then Hf s c n (i+1) (i+1) (acc++[cut s from_ i]) else Hf s c n (i+1) from_ acc
def VM (s:Bs):List Bs:=Hf s 10 s.length 0 0 []
def m9 (f:Nat):List Bs->List C->Option (List C)
 | [],acc=>some acc
 | l::ls,acc=>match yH f l with
  | none=>none
  | some c=>m9 f ls (acc++[c])
def Rw (f:Nat) (s:Bs):Option (List C):=
 let ls:=VM s
 if 21<ls.length ∨ ls.getLast?≠some [] then none else m9 f ls.dropLast []
def U2 (s:Bs):Bool:=match Rw 60 s with
 | some p=>decide (0<p.length) && (decide (p.length<=8) && p.all fun c=>aZ c && decide (wC c<=200))
 | none=>false
end
section
open Go Go.RowKit
section
variable {P:Program} {w w0:World} {X:List Nat} {L:List Item} {S:ai} {K:Value->World->Prop}
theorem EP {T:TypeId} {g i:Bool} {k:IntKind} {a b:Int} (h:a<b) (hk:K (.bool true) w):Run P (el .lss T g i (.int k a) (.int k b)) w K:=by
 refine cd ?_;rw [aD h];exact hk
theorem gu {T:TypeId} {g i:Bool} {k:IntKind} {a b:Int} (h:¬ (a<b)) (hk:K (.bool false) w):Run P (el .lss T g i (.int k a) (.int k b)) w K:=by
 refine cd ?_;rw [aM h];exact hk
theorem KC {T:TypeId} {g i:Bool} {k:IntKind} {a b:Int} (h:a<=b) (hk:K (.bool true) w):Run P (el .leq T g i (.int k a) (.int k b)) w K:=by
 refine jK ?_;rw [aD h];exact hk
theorem Vu {T:TypeId} {g i:Bool} {k:IntKind} {a b:Int} (h:¬ (a<=b)) (hk:K (.bool false) w):Run P (el .leq T g i (.int k a) (.int k b)) w K:=by
 refine jK ?_;rw [aM h];exact hk
theorem Qu {T:TypeId} {g i:Bool} {k:IntKind} {a b:Int} (h:b<a) (hk:K (.bool true) w):Run P (el .gtr T g i (.int k a) (.int k b)) w K:=by
 refine fL ?_;rw [aD h];exact hk
theorem oA {T:TypeId} {g i:Bool} {k:IntKind} {a b:Int} (h:¬ (b<a)) (hk:K (.bool false) w):Run P (el .gtr T g i (.int k a) (.int k b)) w K:=by
 refine fL ?_;rw [aM h];exact hk
theorem qK {T:TypeId} {g i:Bool} {k:IntKind} {a b:Int} (h:b<=a) (hk:K (.bool true) w):Run P (el .geq T g i (.int k a) (.int k b)) w K:=by
 refine iK ?_;rw [aD h];exact hk
theorem Ax {T:TypeId} {g i:Bool} {k:IntKind} {a b:Int} (h:¬ (b<=a)) (hk:K (.bool false) w):Run P (el .geq T g i (.int k a) (.int k b)) w K:=by
 refine iK ?_;rw [aM h];exact hk
theorem ik {T:TypeId} {g i:Bool} {k:IntKind} {a b:Int} (h:a=b) (hk:K (.bool true) w):Run P (el .eql T g i (.int k a) (.int k b)) w K:=by
 refine a9 ?_;rw [aD h];exact hk
theorem gk {T:TypeId} {g i:Bool} {k:IntKind} {a b:Int} (h:¬ (a=b)) (hk:K (.bool false) w):Run P (el .eql T g i (.int k a) (.int k b)) w K:=by
 refine a9 ?_;rw [aM h];exact hk
theorem H9 {T:TypeId} {g h:Bool} {a b:Int} (i:-9223372036854775808<=a * b/\a * b<=9223372036854775807) (hk:K (ee (a * b)) w):Run P (el .mul T g h (ee a) (ee b)) w K:=
 Run.of (by simp [el,eK,binOp,Op.intArith,IntWalk.i64_in _ i]) hk
theorem XF {T:TypeId} {g h:Bool} {a b:Nat} (l:0<b) (m:a<=9223372036854775807) (hk:K (ee ((a / b:Nat):Int)) w):Run P (el .quo T g h (ee (a:Int)) (ee (b:Int))) w K:=by
 refine Run.of ?_ hk;have i:¬ ((b:Int)=0):=by omega
 have j:IntKind.i64.wrap ((a:Int).tdiv b)=((a / b:Nat):Int):=by
  rw [IntWalk.i64_quo _ _ (by omega)];rfl
 simp only [el,eK,binOp,Op.intDiv,Sem.run_bind,Result.andThen_ok,ae i,Sem.run_pure];exact congrArg (fun v=>Result.ok (Next.value (ee v)) w) j
theorem OW {T:TypeId} {g h:Bool} {a b:Nat} (l:0<b) (hk:K (ee ((a % b:Nat):Int)) w):Run P (el .rem T g h (ee (a:Int)) (ee (b:Int))) w K:=by
 refine Run.of ?_ hk;have i:(a:Int).tmod b=((a % b:Nat):Int):=by
  rw [IntWalk.rem_in _ _ (by omega)];rfl
 have j:¬ ((b:Int)=0):=by omega
 simp only [el,eK,binOp,Op.intDiv,Sem.run_bind,Result.andThen_ok,ae j,Sem.run_pure];exact congrArg (fun v=>Result.ok (Next.value (ee v)) w) i
theorem XS {T:TypeId} {g h:Bool} {a b:Nat} (i:a<4611686018427387904) (j:b<4611686018427387904) (hk:K (ee ((a ^^^ b:Nat):Int)) w):Run P (el .xor T g h (ee (a:Int)) (ee (b:Int))) w K:=by
 refine Run.of ?_ hk;have p:a ^^^ b<2 ^ 62:=Nat.xor_lt_two_pow (by simpa using i) (by simpa using j);have l:(BitVec.ofInt 64 (a:Int)).toNat=a:=by rw [BitVec.toNat_ofInt];omega
 have m:(BitVec.ofInt 64 (b:Int)).toNat=b:=by rw [BitVec.toNat_ofInt];omega
 have o:IntKind.i64.wrap ((BitVec.ofInt 64 (a:Int) ^^^ BitVec.ofInt 64 (b:Int)).toNat:Int)=((a ^^^ b:Nat):Int):=by
  rw [BitVec.toNat_xor,l,m];exact IntWalk.i64_in _ (by omega)
 simp only [el,eK,binOp,Op.intBits,Sem.run_bind,Result.andThen_ok,Sem.run_pure];exact congrArg (fun v=>Result.ok (Next.value (ee v)) w) o
theorem Xz {T:TypeId} {g h:Bool} {k:IntKind} {a b c:Int} (i:k.wrap (a+b)=c) (hk:K (.int k c) w):Run P (el .add T g h (.int k a) (.int k b)) w K:=
 Run.of (by simp [el,eK,binOp,Op.intArith,i]) hk
theorem Ud {T:TypeId} {g h:Bool} {k:IntKind} {a b c:Int} (i:k.wrap (a - b)=c) (hk:K (.int k c) w):Run P (el .sub T g h (.int k a) (.int k b)) w K:=
 Run.of (by simp [el,eK,binOp,Op.intArith,i]) hk
theorem sg {a g ty:TypeId} {k h:IntKind} {n m:Int} {d:TypeDesc} (i:P.underlying a=some d) (j:P.underlying g=some (.int h)) (l:h.wrap n=m) (hk:K (.int h m) w) :
  Run P (sOp (.convert a g (.const (.int k n))) ty) w K:=by
 refine Run.of ?_ hk;simp [sOp,execOp,ev0,evE,convert,run_underlying i,run_underlying j,Conv.intToInt,l]
theorem W7 {T ty:TypeId} {n:Int} (a:-9223372036854775808<=-n/\-n<=9223372036854775807) (hk:K (ee (-n)) w):Run P (sOp (.unOp .neg T (.const (ee n))) ty) w K:=
 Run.of (by simp [sOp,execOp,ev0,evE,Op.unary,Op.intArith,Int.zero_sub,IntWalk.i64_in _ a]) hk
theorem X4 (a b:Bs):st a++st b=st (a++b):=by
 apply ByteArray.ext;simp [st]
theorem eh {T:TypeId} {g h:Bool} {a b:Bs} (l:a.length+b.length<=9223372036854775807) (hk:K (.string (st (a++b))) w):Run P (el .add T g h (.string (st a)) (.string (st b))) w K:=by
 refine Run.of ?_ hk;have i:¬ (9223372036854775807<(((st a).size+(st b).size:Nat):Int)):=by rw [lj,lj];omega
 have j:IntKind.i64.max=9223372036854775807:=by decide
 simp only [el,binOp,Op.stringOp,Sem.run_bind,su,Result.andThen_ok,gt_iff_lt,j,ae i,Sem.run_pure,X4]
theorem Yc (s:Bs) (a b:Nat):(st s).extract a b=st (cut s a b):=by
 apply ByteArray.ext;apply Da.1;simp [cut,ByteArray.data_extract,List.drop_take]
theorem FS {T ty:TypeId} {s:Bs} {a b:Nat} (i:P.underlying T=some .string) (g:a<=b) (j:b<=s.length) (hk:K (.string (st (cut s a b))) w) :
  Run P (sOp (.slice T (.const (.string (st s))) (some (.const (ee a))) (some (.const (ee b))) none) ty) w K:=by
 refine Run.of ?_ hk;have h:b<=(st s).size:=by rw [lj];exact j
 simp [sOp,execOp,ev0,evE,Instr.sliceAt,Instr.slice,Instr.sliceBounds,run_underlying i,jJ g,jJ h,Yc]
theorem fZ {T ty:TypeId} {s:Bs} {i:Nat} (g:P.underlying T=some .string) (h:i<s.length) (hk:K (.int .u8 s[i].toNat) w) :
  Run P (sOp (.index T (.const (.string (st s))) (.const (ee i))) ty) w K:=by
 have a:i<(st s).size:=by rw [lj];exact h
 refine mX g a ?_;have:(st s)[i]=s[i]:=by simp [st,ByteArray.getElem_eq_getElem_data]
 rw [this];exact hk
theorem g6 {T ty:TypeId} {cs:List Bool} {s:Bs} (a:P.underlying T=some .string) (hk:K (ee s.length) w):Run P (co .len #[T] ty cs [.string (st s)]) w K:=by
 refine mV a ?_;rw [lj];exact hk
theorem F0 {T:TypeId} {g i:Bool} {a b:Bs} (hk:K (.bool (decide (a=b))) w):Run P (el .eql T g i (.string (st a)) (.string (st b))) w K:=by
 refine bT ?_;have:decide (st a=st b)=decide (a=b):=by
  rw [cW];exact ⟨fun h=>by rw [<- HI a,h,HI],fun h=>by rw [h]⟩
 rw [this];exact hk
theorem QT {T:TypeId} {g i:Bool} {a b:Bs} (hk:K (.bool (!decide (a=b))) w):Run P (el .neq T g i (.string (st a)) (.string (st b))) w K:=by
 refine Ji ?_;have:decide (st a=st b)=decide (a=b):=by
  rw [cW];exact ⟨fun h=>by rw [<- HI a,h,HI],fun h=>by rw [h]⟩
 rw [this];exact hk
theorem Gz (h:Inv w0 X L S w) {T T' D ty e:TypeId} {a:Nat} {z:Value} {n:Nat} (m:jX P T=some (e,1,a,z)) (o:P.underlying T'=some (.slice e)) (p:P.underlying e=some (.int .u8)) (q:P.underlying D=some .string)
  {K:Value->Value->World->Prop} (hk:∀ w',Inv w0 X L S w'->K (.slice (some ⟨w.heap.size,0,none⟩) 1 1) (.string (st [UInt8.ofNat n])) w') :
  Run P (cf T 1 [(0,.int .u8 (n:Int))]) w fun u w'=>Run P (sOp (.convert T' D (.const u)) ty) w' (K u):=by
 refine pa h m rfl (by omega) (by omega) fun w' i=>?_;have r:(L++[Item.blk w.heap.size (.cells (Value.int .u8 (n:Int)).cells e)])[L.length]?=some (.blk w.heap.size (.cells (Value.int .u8 (n:Int)).cells e)):=by
  rw [jV (aY _),fB];rfl
 have hc:w'.cell? ⟨w.heap.size,0,none⟩=some (.int .u8 (n:Int)):=by rw [i.cellL r];rfl
 have l:=run_loadCells_list (P:=P) (w:=w') ⟨w.heap.size,0,none⟩ [.int .u8 (n:Int)] (fun j v g=>by
  match j with
  | 0=>simp only [HP,bj] at g;subst g;rw [add_lit];exact hc
  | j+1=>simp at g)
 simp only [aP,ce] at l;refine Run.of (w':=w') ?_ (hk _ (i.sub (gV _ _)));simp [sOp,execOp,ev0,evE,convert,run_underlying o,run_underlying p,run_underlying q,Conv.bytesToString,l,st];rfl
end
end
section
open Go Go.RowKit
theorem mH {s:Bs} {i:Nat} (h:i<s.length) (c:Nat):sgn s i c=decide (s[i].toNat=c):=by simp [sgn,List.getElem?_eq_getElem h]
theorem Vn {s:Bs} {i:Nat} (h:¬ i<s.length) (c:Nat):sgn s i c=false:=by simp [sgn,List.getElem?_eq_none (Nat.le_of_not_lt h)]
theorem p9 {s:Bs} {i:Nat} (h:i<s.length) (a b:Nat):btw s i a b=(decide (a<=s[i].toNat) && decide (s[i].toNat<=b)):=by simp [btw,List.getElem?_eq_getElem h]
theorem PQ {s:Bs} {i:Nat} (h:¬ i<s.length) (a b:Nat):btw s i a b=false:=by simp [btw,List.getElem?_eq_none (Nat.le_of_not_lt h)]
theorem FO {s:Bs} {i a b:Nat} (h:btw s i a b=true):i<s.length:=by
 rcases KV i s.length with g|g
 ·exact g
 ·rw [PQ (by omega)] at h;cases h
theorem jZ {s:Bs} {i c:Nat} (h:sgn s i c=true):i<s.length:=by
 rcases KV i s.length with a|a
 ·exact a
 ·rw [Vn (by omega)] at h;cases h
section
theorem dN (s:Bs) (i c:Nat) (S:ai):ru O0 [.string (st s),ee (i:Int),.int .u8 (c:Int)] S (.bool (sgn s i c)):=by
 intro w a;refine BE.2 ?_;dsimp only[BE,eX];refine qK (by omega) ?_;refine rpG ?_;refine g6 bm ?_;by_cases h:i<s.length
 ·refine EP (by omega) ?_;refine rpG ?_;refine fZ bm h ?_;refine a9 ?_;refine rpG ?_;refine done a ?_;rw [mH h]
  congr 1
  rw [cW];omega
 ·refine gu (by omega) ?_;refine rpG ?_;exact done a (by rw [Vn h])
theorem jt (s:Bs) (i:Nat) (S:ai):ru N4 [.string (st s),ee (i:Int)] S (.bool (dig s i)):=by
 intro w a;refine yO.2 ?_;dsimp only[yO,bv];refine qK (by omega) ?_;refine rpG ?_;refine g6 bm ?_;by_cases h:i<s.length
 ·refine EP (by omega) ?_;refine rpG ?_;refine fZ bm h ?_;rw [dig,p9 h];by_cases g:48<=s[i].toNat
  ·refine qK (by omega) ?_;refine rpG ?_;refine fZ bm h ?_;refine jK ?_;refine rpG ?_;refine done a ?_;rw [aD g,fk]
   congr 1
   rw [cW];omega
  ·refine Ax (by omega) ?_;refine rpG ?_;exact done a (by rw [aM g,jm])
 ·refine gu (by omega) ?_;refine rpG ?_;exact done a (by rw [dig,PQ h])
theorem qW (s:Bs) (i:Nat) (S:ai):ru MX [.string (st s),ee (i:Int)] S (.bool (sml s i)):=by
 intro w a;refine y7.2 ?_;dsimp only[y7,bv];refine qK (by omega) ?_;refine rpG ?_;refine g6 bm ?_;by_cases h:i<s.length
 ·refine EP (by omega) ?_;refine rpG ?_;refine fZ bm h ?_;rw [sml,p9 h];by_cases g:97<=s[i].toNat
  ·refine qK (by omega) ?_;refine rpG ?_;refine fZ bm h ?_;refine jK ?_;refine rpG ?_;refine done a ?_;rw [aD g,fk]
   congr 1
   rw [cW];omega
  ·refine Ax (by omega) ?_;refine rpG ?_;exact done a (by rw [aM g,jm])
 ·refine gu (by omega) ?_;refine rpG ?_;exact done a (by rw [sml,PQ h])
end
theorem RY {s:Bs} {i:Nat} (h:i<s.length):dig s i=true↔48<=s[i].toNat/\s[i].toNat<=57:=by
 rw [dig,p9 h,bQ,bK,bK]
theorem Ss {d:Bs} {j:Nat} (h:j<d.length) (m:Nat):GL (d.drop j) m=GL (d.drop (j+1)) (m * 10+(d[j].toNat - 48)):=by
 rw [ef h,GL]
section
theorem KM (d:Bs) (r:∀ i,i<d.length->dig d i=true) (p:0<d.length) (O:d.length<=4) (B:¬ (sgn d 0 48=true/\1<d.length)) (S:ai) :
  ru PN [.string (st d)] S (.tuple #[ee ((GL d 0:Nat):Int),.bool true]):=by
 intro w a;refine Bv.2 ?_;dsimp only[Bv,bd];have J:=(RY p).1 (r 0 p);refine ⟨fun t w'=>t=.bool false/\Inv w [] [] S w',?_,?_⟩
 ·refine g6 bm ?_;refine Qu (by omega) ?_;refine rpG ?_;refine fZ (i:=0) bm p ?_;refine gk (by omega) ?_;refine rpG ?_;exact ⟨rfl,a⟩
 intro U _ _ _ _ _ _ _ _ w';rintro ⟨rfl,a⟩;refine ⟨fun t w'=>t=.string (st d)/\Inv w [] [] S w',?_,?_⟩
 ·exact aL (fun o=>by cases o) (fun _=>⟨rfl,a⟩)
 intro V _ _ _ w';rintro ⟨rfl,a⟩;refine ⟨fun t w'=>t=.bool false/\Inv w [] [] S w',?_,?_⟩
 ·refine g6 bm ?_;refine gk (by omega) ?_;refine rpG ?_;refine g6 bm ?_;refine oA (by omega) ?_;refine rpG ?_;refine fZ (i:=0) bm p ?_;by_cases N:d[0].toNat=48
  ·refine ik (by omega) ?_;refine rpG ?_;refine g6 bm ?_;refine oA (by
    have:¬ 1<d.length:=fun h=>B ⟨by rw [mH p,N];rfl,h⟩;omega) ?_
   refine rpG ?_;exact ⟨rfl,a⟩
  ·refine gk (by omega) ?_;refine rpG ?_;exact ⟨rfl,a⟩
 intro C _ _ _ _ _ _ _ _ _ _ _ _ _ _ _ _ _ _ _ _ w';rintro ⟨rfl,a⟩;refine aL (fun o=>by cases o) (fun _=>?_);refine ⟨fun i n w'=>∃ j m:Nat,j<=d.length/\i=ee j/\n=ee m/\m<10 ^ j/\GL (d.drop j) m=GL d 0/\Inv w [] [] S w',fun i _ _=>d.length - (intOf i).toNat,
  ⟨0,0,aT _,rfl,rfl,by simp,rfl,a⟩,?_⟩
 intro Y _ _ D _ _ _ _ _ _ _ _ _ _ _ _ _ _ _ _ _ _ _ _ _ _ _ _ w';rintro ⟨j,m,Z,rfl,rfl,hm,l,a⟩;have hp:10 ^ j<=10 ^ 4:=JT (by omega) (by omega);refine g6 bm ?_;refine cd ?_;refine aJ (fun q=>?_) (fun q=>?_)
 ·have g:j<d.length:=by omega
  have M:=(RY g).1 (r j g);refine ⟨fun t w'=>t=.bool false/\Inv w [] [] S w',?_,?_⟩
  ·refine fZ bm g ?_;refine gu (by omega) ?_;refine rpG ?_;refine fZ bm g ?_;refine oA (by omega) ?_;refine rpG ?_;exact ⟨rfl,a⟩
  intro G _ _ _ _ _ _ _ _ _ w';rintro ⟨rfl,a⟩;refine aL (fun o=>by cases o) (fun _=>?_);refine H9 (by omega) ?_;refine fZ bm g ?_;refine Ud (c:=((d[j].toNat - 48:Nat):Int)) ?_ ?_
  ·rw [IntWalk.u8_in _ (by omega)];omega
  refine sg iJ dS (IntWalk.i64_in _ (by omega)) ?_;refine bL (by omega) ?_;refine bL (by omega) ?_;refine ⟨⟨j+1,m * 10+(d[j].toNat - 48),g,rfl,?_,?_,?_,a⟩,by simp [intOf];omega⟩
  ·congr 1
  ·rw [Nat.pow_succ];omega
  ·rw [<- l,Ss g]
 ·have:j=d.length:=by omega
  subst this;rw [eL,GL] at l;refine ⟨fun t w'=>t=ee m/\Inv w [] [] S w',aL (fun o=>by cases o) (fun _=>⟨rfl,a⟩),?_⟩;intro D _ _ _ w';rintro ⟨rfl,a⟩;exact done a (by rw [l])
abbrev HK (k n:Int):Value:=.agg #[ee k,ee n,.string ⟨#[]⟩,nx]
theorem sq {w:World} {K:Value->World->Prop} {k n:Int} (hk:K (HK k n) w):Run Tryz.prog (cr ac [(0,ee k),(1,ee n)]) w K:=by
 refine Run.of (v:=HK k n) (w':=w) ?_ hk;unfold cr;rw [Sem.run_bind,run_build w ac _ #[ee k,ee n,.string ⟨#[]⟩,nx] (by kernel_rfl),Result.andThen_ok];rfl
theorem lo (n:Int) (S:ai):ru SW [ee n] S (HK 1 n):=by
 intro w a;refine Fg.2 ?_;dsimp only[Fg,bd];refine aE a aQ fun b w' a=>?_;refine sq ?_;refine aj a 0 rfl af rfl rfl (by simp [Value.oneCell']) fun w' a=>?_;refine be a 0 af rfl rfl ?_;exact done a rfl
theorem gv (n:Int) (S:ai):ru R3 [ee n] S (HK 2 n):=by
 intro w a;refine E6.2 ?_;dsimp only[E6,bd];refine aE a aQ fun b w' a=>?_;refine sq ?_;refine aj a 0 rfl af rfl rfl (by simp [Value.oneCell']) fun w' a=>?_;refine be a 0 af rfl rfl ?_;exact done a rfl
end
theorem Lz (s:Bs) (n e:Nat):uB s (n+1) e=if dig s e=true then uB s n (e+1) else e:=rfl
theorem Kj (s:Bs):∀ (n e:Nat),e<=uB s n e/\uB s n e<=e+n
 | 0,e=>by simp [uB]
 | n+1,e=>by
  rw [uB];split
  ·have:=Kj s n (e+1);omega
  ·omega
theorem xo (s:Bs):∀ (n e i:Nat),e<=i->i<uB s n e->dig s i=true
 | 0,e,i,h1,h2=>by simp [uB] at h2;omega
 | n+1,e,i,h1,h2=>by
  rw [uB] at h2;split at h2
  ·rename_i h
   by_cases a:e=i
   ·subst a;exact h
   ·exact xo s n (e+1) i (by omega) h2
  ·omega
theorem JI {s:Bs} {a b i:Nat} (g:i<(cut s a b).length):∃ h:a+i<s.length,(cut s a b)[i]=s[a+i]/\a+i<b:=by
 have j:(cut s a b).length=min b s.length - a:=by simp [cut]
 refine ⟨by omega,?_,by omega⟩;simp [cut]
theorem JX {s:Bs} {a b:Nat} (g:b<=s.length):(cut s a b).length=b - a:=by simp [cut]; omega
theorem WV {s:Bs} {a b i:Nat} (g:i<(cut s a b).length):dig (cut s a b) i=dig s (a+i):=by
 obtain ⟨h,e,_⟩:=JI g;rw [dig,dig,p9 g,p9 h,e]
section
theorem F3 {s:Bs} {i e:Nat} {t:T} (hn:TV s i=some (t,e)) (hi:i<=100000) (S:ai) :
  ∃ n:Int,inI n/\t=.mk 2 n emptyB []/\i<=e/\e<=i+5/\ru Lq [.string (st s),ee (i:Int)] S (.tuple #[HK 2 n,ee (e:Int)]):=by
 unfold TV at hn;obtain ⟨fr,m⟩:∃ fr,fr=if sgn s i 45=true then i+1 else i:=⟨_,rfl⟩
 simp only [<- m] at hn;obtain ⟨p,q⟩:∃ p,p=uB s 4 fr:=⟨_,rfl⟩
 simp only [<- q] at hn;have V:=Kj s 4 fr;rw [<- q] at V;have a5:i<=fr/\fr<=i+1:=by rw [m];split <;> omega
 split at hn
 ·cases hn
 rename_i hc
 simp only [not_or] at hc;obtain ⟨N,O,G,U⟩:=hc;simp only [bj,c9] at hn;obtain ⟨rfl,rfl⟩:=hn;have J:∀ j,j<(cut s fr p).length->dig (cut s fr p) j=true:=fun j Z=>by
  obtain ⟨h1,h2,h3⟩:=JI Z;rw [WV Z];exact xo s 4 fr _ (by omega) (by rw [<- q];exact h3)
 have r:0<(cut s fr p).length:=by
  cases he:cut s fr p with
  | nil=>exact absurd he N
  | cons a l=>simp
 have a0:fr<p:=by
  obtain ⟨_,_,h3⟩:=JI r;omega
 have B:p<=s.length:=by
  have:=xo s 4 fr (p - 1) (by omega) (by rw [<- q];omega);have:=FO this;omega
 refine ⟨_,?_,rfl,by omega,by omega,?_⟩
 ·unfold inI;split <;> omega
 intro w g;refine uE.2 ?_;dsimp only[uE,bv];refine aE g aQ fun D w' g=>?_;refine ⟨fun t w'=>t=ee (fr:Int)/\Inv w [] [ei D et ac] S w',?_,?_⟩
 ·refine Run.callPure ey ez g (dN s i 45 S) fun w' g=>?_;refine aL (fun o=>?_) (fun o=>?_)
  ·refine bL (by omega) ?_;rw [ag o] at m;exact ⟨by rw [m];congr 1,g⟩
  ·rw [ae (by rw [o];decide)] at m;exact ⟨by rw [m],g⟩
 intro t6 _ _ _ _ _ w';rintro ⟨rfl,g⟩;refine ⟨fun t w'=>∃ j:Nat,t=ee (j:Int)/\fr<=j/\j<=fr+4/\uB s (fr+4 - j) j=p/\Inv w [] [ei D et ac] S w',fun t _=>fr+4 - (intOf t).toNat,
  ⟨fr,rfl,aY _,by omega,by rw [qx];exact q.symm,g⟩,?_⟩
 intro t6 _ _ _ _ _ _ _ _ _ _ _ w';rintro ⟨j,rfl,a1,a2,C,g⟩;refine ⟨fun t w'=>t=.bool (dig s j && decide (j<fr+4))/\Inv w [] [ei D et ac] S w',?_,?_⟩
 ·refine Run.callPure mw mv g (jt s j S) fun w' g=>?_;cases a6:dig s j
  ·refine rpG ?_;exact ⟨rfl,g⟩
  ·refine rpG ?_;refine bL (by omega) ?_;refine cd ?_;refine rpG ?_;refine ⟨?_,g⟩;rw [fk]
   congr 1
   rw [cW];omega
 intro a3 _ _ _ _ _ _ _ _ w';rintro ⟨rfl,g⟩;refine aL (fun o=>?_) (fun o=>?_)
 ·rw [bQ,bK] at o;refine bL (by omega) ?_;refine ⟨⟨j+1,rfl,by omega,by omega,?_,g⟩,by simp [intOf];omega⟩;rw [<- C,show fr+4 - j=(fr+4 - (j+1))+1 by omega,Lz,ag o.1]
 ·have Y:j=p:=by
   rw [<- C];by_cases h4:j=fr+4
   ·rw [h4,fB];rfl
   ·rw [show fr+4 - j=(fr+4 - (j+1))+1 by omega,Lz,ae];intro hd;rw [hd,fk,nu] at o;omega
  subst Y;refine FS bm (by omega) B ?_;refine Run.callPure N0 Mz g (KM _ J r (by rw [JX B];omega) O S) fun w' g=>?_;obtain ⟨n,hn⟩:∃ n,n=GL (cut s fr j) 0:=⟨_,rfl⟩
  rw [<- hn];refine aA (v:=ee (n:Int)) rfl ?_;refine aA (v:=.bool true) rfl ?_;simp only [<- hn] at G U ⊢;refine ⟨fun t w'=>t=.bool false/\Inv w [] [ei D et ac] S w',?_,?_⟩
  ·refine c8 ?_;refine rpG ?_;by_cases M:i<fr
   ·refine Qu (by omega) ?_;refine rpG ?_;refine a9 ?_;have:¬ n=0:=fun h=>G ⟨M,h⟩;rw [aM (by omega)];refine rpG ?_;refine oA (by omega) ?_;refine rpG ?_;exact ⟨rfl,g⟩
   ·refine oA (by omega) ?_;refine rpG ?_;refine oA (by omega) ?_;refine rpG ?_;exact ⟨rfl,g⟩
  intro a4 _ _ _ _ _ _ _ _ _ _ _ _ _ _ w';rintro ⟨rfl,g⟩;refine aL (fun o=>by cases o) (fun _=>?_);refine ⟨fun t w'=>t=ee (if i<fr then -(n:Int) else n)/\Inv w [] [ei D et ac] S w',?_,?_⟩
  ·refine fL ?_;refine aJ (fun o=>?_) (fun o=>?_)
   ·refine W7 (by omega) ?_;exact ⟨by rw [ag (by omega)],g⟩
   ·exact ⟨by rw [ae (by omega)],g⟩
  intro t8 _ _ _ _ _ w';rintro ⟨rfl,g⟩;refine Run.callPure jy jG g (gv _ S) fun w' g=>?_;refine aj g 0 rfl af rfl rfl (by simp [Value.oneCell']) fun w' g=>?_;refine be g 0 af rfl rfl ?_;exact done g rfl
end
theorem RdSl.some1 {α:Type} {S:ai} {k:Nat} {R:nA->α->Prop} {v:Value} {xs:List α} (h:RdSl S k R v xs) (a:0<xs.length):∃ b o cap,v=kt b o xs.length cap:=by
 obtain ⟨b,o,cap,c,E,g,e,_,_⟩:=h.at_ a;exact ⟨b,o,cap,e⟩
theorem LC (s:Bs) (n e:Nat):Dj s (n+1) e=if sml s e=true then Dj s n (e+1) else e:=rfl
def Rl (o:Option (Bs × Nat)):Value:=match o with
 | none=>.tuple #[.string ⟨#[]⟩,.int .i64 (-1)]
 | some (n,e)=>.tuple #[.string (st n),.int .i64 (e:Int)]
theorem Qr (s:Bs) (i:Nat) {j:Nat} (h:j<signs.length) (b:Bs):kC s i (signs.drop j) b=kC s i (signs.drop (j+1)) (if decide (i+signs[j].size<=s.length)=true/\cut s i (i+signs[j].size)=bs signs[j]/\b.length<signs[j].size then bs signs[j] else b):=by
 rw [ef h,kC]
theorem Oy:∀ x∈signs,x.size<=3:=by decide
section
theorem zi {s:Bs} {i:Nat} (hi:i<s.length) (hs:s.length<=100000) (S:ai):ru Qs [.string (st s),ee (i:Int)] S (Rl (xO s i)):=by
 intro w g;refine CO.2 ?_;dsimp only[CO,bv];obtain ⟨E,hE⟩:∃ E,E=Dj s (s.length - i) i:=⟨_,rfl⟩
 have G:xO s i=if i+6<E then none else if i<E then some (cut s i E,E) else if kC s i signs []=[] then none else some (kC s i signs [],i+(kC s i signs []).length):=by
  rw [xO,<- hE]
 refine ⟨fun t w'=>∃ e:Nat,t=ee (e:Int)/\i<=e/\e<=s.length/\Dj s (s.length - e) e=E/\Inv w [] [] S w',fun t _=>s.length - (intOf t).toNat,⟨i,rfl,aY _,by omega,hE.symm,g⟩,?_⟩;intro t6 _ _ _ _ _ w';rintro ⟨e,rfl,b1,b2,a2,g⟩;refine Run.callPure wu zm g (qW s e S) fun w' g=>?_;refine aL (fun B=>?_) (fun B=>?_)
 ·have e2:=FO B;refine bL (by omega) ?_;refine ⟨⟨e+1,rfl,by omega,by omega,?_,g⟩,by simp [intOf];omega⟩;rw [<- a2,show s.length - e=(s.length - (e+1))+1 by omega,LC,ag B]
 have a9:e=E:=by
  rw [<- a2];by_cases h:e=s.length
  ·rw [h,fB,Dj]
  ·rw [show s.length - e=(s.length - (e+1))+1 by omega,LC,ae (by rw [B];decide)]
 subst a9;refine bL (by omega) ?_;refine fL ?_;refine aJ (fun B=>done g (by rw [G,ag (by omega)];rfl)) (fun B=>?_);rw [ae (by omega)] at G;refine fL ?_;refine aJ (fun B=>?_) (fun B=>?_)
 ·refine FS bm (by omega) (by omega) ?_;exact done g (by rw [G,ag (by omega)];rfl)
 rw [ae (by omega)] at G;refine Run.call0 yF yU g (u7 S) fun v I' S1 w'=>?_;rintro ⟨rfl,a3,hr⟩ _ g;obtain ⟨b,o,cap,rfl⟩:=RdSl.some1 hr (by decide);refine ⟨fun t u w'=>∃ (j:Nat) (m:Bs),j<=signs.length/\t=ee (j:Int)/\u=.string (st m)/\m.length<=3/\kC s i (signs.drop j) m=kC s i signs []/\Inv w [] [] S1 w',fun t _ _=>signs.length - (intOf t).toNat,
  ⟨0,[],aT _,rfl,rfl,by simp,rfl,g.nil⟩,?_⟩
 intro t9 _ _ t7 _ _ _ _ b3 b4 b5 b6 b7 b8 b9 c1 c2 c3 c4 c5 c6 c7 c8 c9 d0 d1 d2 d3 d4 d6 d7 d9 e0 _ _ _ _ _ _ _ _ _ _ w';rintro ⟨j,m,e1,rfl,rfl,a1,l,g⟩;have e3:signs.length=15:=rfl;refine aO hr dM ?_;refine cd ?_;refine aJ (fun a7=>?_) (fun a7=>?_)
 ·have hj:j<signs.length:=by omega
  obtain ⟨x,hx⟩:∃ x,x=signs[j]:=⟨_,rfl⟩
  have e4:x.size<=3:=by rw [hx];exact Oy _ (cO hj)
  obtain ⟨b',o',b0,c,E',fz,a8,hS,hR⟩:=hr.at_ hj;cases a8;have M:c[o+j * 1]?=some (.string x):=by rw [hx];exact bf hR 0 _ rfl
  rw [Qr s i hj,<- hx] at l;refine ⟨fun u w'=>∃ q,u=.string (st q)/\q.length<=3/\kC s i (signs.drop (j+1)) q=kC s i signs []/\Inv w [] [] S1 w',?_,?_⟩
  ·refine aN dM hj ?_;refine eD aV ((g.cellS hS).trans M) ?_;refine mV bm ?_;by_cases J:i+x.size<=s.length
   ·cases hq:decide (st (cut s i (i+x.size))=x)
    ·skip
     refine ⟨fun D CW Cf N O U V Y Z tw pW qN wt rp lM rB pN pq oV nL ov ny m8 kI mx nH w_=>Fx D 0 [nH=ee (i:Int),mx=ee (x.size:Int),kI=ee ((i+x.size:Nat):Int),m8=.string (st s),ny=ee (s.length:Int),ov=.bool true,nL=.bool true,oV=.string (st s),pq=ee (i:Int),pN=ee (i:Int),rB=ee (x.size:Int),lM=ee ((i+x.size:Nat):Int),rp=.string (st (cut s i (i+x.size))),wt=kt b o signs.length cap,qN=ee (j:Int),pW=kh b (o+j * 1),tw=.string x,Z=.bool false,Y=.bool false,V=.bool false,U=undef,O=undef,N=undef,Cf=undef,CW=.bool false]/\Inv w [] [] S1 w_,⟨Fx.nil _ _,g.draw⟩,⟨?_,?_,?_,?_,?_,?_,?_,?_,?_,?_,?_,?_,?_,?_,?_,?_,?_,?_,?_,?_,?_,?_,?_,?_,?_,trivial⟩,?_⟩;all_goals (intro D bp;intros;rename_i CW Cf N O U V Y Z tw pW qN wt rp lM rB pN pq oV nL ov ny m8 kI mx nH w_ C;have a:=C.1;obtain ⟨⟨cF,ci,cG,cD,bU,cH,p,cR,dJ,dQ,cJ,dv,eG,gL,kz,kX,lU,qe,rL,r,uf,uy,wk,Fl,Mc,_⟩,g⟩:=C)
     ·exact ⟨a.set 0 rfl,g⟩
     ·exact ⟨a.set 1 rfl,g⟩
     ·obtain rfl:=cF ‹_›;obtain rfl:=ci ‹_›;refine bL (by omega) ?_;exact ⟨a.set 2 rfl,g⟩
     ·exact ⟨a.set 3 rfl,g⟩
     ·obtain rfl:=cD ‹_›;refine g6 bm ?_;exact ⟨a.set 4 rfl,g⟩
     ·obtain rfl:=cG ‹_›;obtain rfl:=bU ‹_›;refine KC (by omega) ?_;exact ⟨a.set 5 rfl,g⟩
     ·obtain rfl:=cH ‹_›;exact ⟨a.set 6 rfl,g⟩
     ·obtain rfl:=p ‹_›;refine cw ?_;exact ⟨a.set 7 rfl,g⟩
     ·obtain rfl:=p ‹_›;refine cw ?_;exact ⟨a.set 8 rfl,g⟩
     ·obtain rfl:=p ‹_›;refine cw ?_;exact ⟨a.set 9 rfl,g⟩
     ·obtain rfl:=p ‹_›;refine cw ?_;exact ⟨a.set 10 rfl,g⟩
     ·obtain rfl:=dQ ‹_›;obtain rfl:=cJ ‹_›;obtain rfl:=p ‹_›;refine cw ?_;refine bL (by omega) ?_;exact ⟨a.set 11 rfl,g⟩
     ·obtain rfl:=cR ‹_›;obtain rfl:=dJ ‹_›;obtain rfl:=dv ‹_›;obtain rfl:=p ‹_›;refine cw ?_;refine FS bm (by omega) (by omega) ?_;exact ⟨a.set 12 rfl,g⟩
     ·obtain rfl:=p ‹_›;refine cw ?_;exact ⟨a.set 13 rfl,g⟩
     ·obtain rfl:=p ‹_›;refine cw ?_;exact ⟨a.set 14 rfl,g⟩
     ·obtain rfl:=gL ‹_›;obtain rfl:=kz ‹_›;obtain rfl:=p ‹_›;refine cw ?_;refine aN dM hj ?_;exact ⟨a.set 15 rfl,g⟩
     ·obtain rfl:=kX ‹_›;obtain rfl:=p ‹_›;refine cw ?_;refine eD aV ((g.cellS hS).trans M) ?_;exact ⟨a.set 16 rfl,g⟩
     ·obtain rfl:=eG ‹_›;obtain rfl:=lU ‹_›;obtain rfl:=p ‹_›;refine cw ?_;refine bT ?_;rw [hq];exact ⟨a.set 17 rfl,g⟩
     ·obtain rfl:=p ‹_›;obtain rfl:=qe ‹_›;refine DI ?_;exact ⟨a.set 18 rfl,g⟩
     ·obtain rfl:=rL ‹_›;exact ⟨a.set 19 rfl,g⟩
     ·obtain rfl:=r ‹_›;refine eY (c:=false) (b:=true) (by decide) ?_;exact ⟨a.set 20 rfl,g⟩
     ·obtain rfl:=r ‹_›;refine eY (c:=false) (b:=true) (by decide) ?_;exact ⟨a.set 21 rfl,g⟩
     ·obtain rfl:=uy ‹_›;obtain rfl:=r ‹_›;refine eY (c:=false) (b:=true) (by decide) ?_;exact ⟨a.set 22 rfl,g⟩
     ·obtain rfl:=uf ‹_›;obtain rfl:=wk ‹_›;obtain rfl:=r ‹_›;refine eY (c:=false) (b:=true) (by decide) ?_;exact ⟨a.set 23 rfl,g⟩
     ·obtain rfl:=r ‹_›;obtain rfl:=Fl ‹_›;refine tY ?_;exact ⟨a.set 24 rfl,g⟩
     obtain ⟨rfl,rfl,rfl,rfl,rfl,rfl,rfl,rfl,rfl,rfl,rfl,rfl,rfl,rfl,rfl,rfl,rfl,rfl,rfl,rfl,rfl,rfl,rfl,rfl,rfl,_⟩:=a.all;clear a cF ci cG cD bU cH p cR dJ dQ cJ dv eG gL kz kX lU qe rL r uf uy wk Fl Mc;refine aL (fun B=>by cases B) (fun _=>?_);refine ⟨m,rfl,a1,?_,g⟩;rw [ae] at l
     ·exact l
     ·rintro ⟨_,h2,_⟩;rw [nu] at hq;exact hq (by rw [h2])
    ·rw [bK] at hq;have a5:=hq;have hq:decide (st (cut s i (i+x.size))=x)=true:=aD a5
     skip
     refine ⟨fun D CW Cf N O U V Y Z tw pW qN wt rp lM rB pN pq oV nL ov ny m8 kI mx nH w_=>Fx D 0 [nH=ee (i:Int),mx=ee (x.size:Int),kI=ee ((i+x.size:Nat):Int),m8=.string (st s),ny=ee (s.length:Int),ov=.bool true,nL=.bool true,oV=.string (st s),pq=ee (i:Int),pN=ee (i:Int),rB=ee (x.size:Int),lM=ee ((i+x.size:Nat):Int),rp=.string (st (cut s i (i+x.size))),wt=kt b o signs.length cap,qN=ee (j:Int),pW=kh b (o+j * 1),tw=.string x,Z=.bool true,Y=.bool true,V=.bool true,U=ee (x.size:Int),O=.string (st m),N=ee (m.length:Int),Cf=.bool (decide ((m.length:Int)<(x.size:Int))),CW=.bool (decide ((m.length:Int)<(x.size:Int)))]/\Inv w [] [] S1 w_,⟨Fx.nil _ _,g.draw⟩,⟨?_,?_,?_,?_,?_,?_,?_,?_,?_,?_,?_,?_,?_,?_,?_,?_,?_,?_,?_,?_,?_,?_,?_,?_,?_,trivial⟩,?_⟩;all_goals (intro D bp;intros;rename_i CW Cf N O U V Y Z tw pW qN wt rp lM rB pN pq oV nL ov ny m8 kI mx nH w_ C;have a:=C.1;obtain ⟨⟨cF,ci,cG,cD,bU,cH,p,cR,dJ,dQ,cJ,dv,eG,gL,kz,kX,lU,qe,rL,r,uf,uy,wk,Fl,Mc,_⟩,g⟩:=C)
     ·exact ⟨a.set 0 rfl,g⟩
     ·exact ⟨a.set 1 rfl,g⟩
     ·obtain rfl:=cF ‹_›;obtain rfl:=ci ‹_›;refine bL (by omega) ?_;exact ⟨a.set 2 rfl,g⟩
     ·exact ⟨a.set 3 rfl,g⟩
     ·obtain rfl:=cD ‹_›;refine g6 bm ?_;exact ⟨a.set 4 rfl,g⟩
     ·obtain rfl:=cG ‹_›;obtain rfl:=bU ‹_›;refine KC (by omega) ?_;exact ⟨a.set 5 rfl,g⟩
     ·obtain rfl:=cH ‹_›;exact ⟨a.set 6 rfl,g⟩
     ·obtain rfl:=p ‹_›;refine cw ?_;exact ⟨a.set 7 rfl,g⟩
     ·obtain rfl:=p ‹_›;refine cw ?_;exact ⟨a.set 8 rfl,g⟩
     ·obtain rfl:=p ‹_›;refine cw ?_;exact ⟨a.set 9 rfl,g⟩
     ·obtain rfl:=p ‹_›;refine cw ?_;exact ⟨a.set 10 rfl,g⟩
     ·obtain rfl:=dQ ‹_›;obtain rfl:=cJ ‹_›;obtain rfl:=p ‹_›;refine cw ?_;refine bL (by omega) ?_;exact ⟨a.set 11 rfl,g⟩
     ·obtain rfl:=cR ‹_›;obtain rfl:=dJ ‹_›;obtain rfl:=dv ‹_›;obtain rfl:=p ‹_›;refine cw ?_;refine FS bm (by omega) (by omega) ?_;exact ⟨a.set 12 rfl,g⟩
     ·obtain rfl:=p ‹_›;refine cw ?_;exact ⟨a.set 13 rfl,g⟩
     ·obtain rfl:=p ‹_›;refine cw ?_;exact ⟨a.set 14 rfl,g⟩
     ·obtain rfl:=gL ‹_›;obtain rfl:=kz ‹_›;obtain rfl:=p ‹_›;refine cw ?_;refine aN dM hj ?_;exact ⟨a.set 15 rfl,g⟩
     ·obtain rfl:=kX ‹_›;obtain rfl:=p ‹_›;refine cw ?_;refine eD aV ((g.cellS hS).trans M) ?_;exact ⟨a.set 16 rfl,g⟩
     ·obtain rfl:=eG ‹_›;obtain rfl:=lU ‹_›;obtain rfl:=p ‹_›;refine cw ?_;refine bT ?_;rw [hq];exact ⟨a.set 17 rfl,g⟩
     ·obtain rfl:=p ‹_›;obtain rfl:=qe ‹_›;refine DI ?_;exact ⟨a.set 18 rfl,g⟩
     ·obtain rfl:=rL ‹_›;exact ⟨a.set 19 rfl,g⟩
     ·obtain rfl:=r ‹_›;refine cw ?_;exact ⟨a.set 20 rfl,g⟩
     ·obtain rfl:=r ‹_›;refine cw ?_;exact ⟨a.set 21 rfl,g⟩
     ·obtain rfl:=uy ‹_›;obtain rfl:=r ‹_›;refine cw ?_;refine g6 bm ?_;exact ⟨a.set 22 rfl,g⟩
     ·obtain rfl:=uf ‹_›;obtain rfl:=wk ‹_›;obtain rfl:=r ‹_›;refine cw ?_;refine fL ?_;exact ⟨a.set 23 rfl,g⟩
     ·obtain rfl:=r ‹_›;obtain rfl:=Fl ‹_›;refine DI ?_;exact ⟨a.set 24 rfl,g⟩
     obtain ⟨rfl,rfl,rfl,rfl,rfl,rfl,rfl,rfl,rfl,rfl,rfl,rfl,rfl,rfl,rfl,rfl,rfl,rfl,rfl,rfl,rfl,rfl,rfl,rfl,rfl,_⟩:=a.all;clear a cF ci cG cD bU cH p cR dJ dQ cJ dv eG gL kz kX lU qe rL r uf uy wk Fl Mc;have a0:cut s i (i+x.size)=bs x:=by rw [<- HI (cut s i (i+x.size)),a5]
     refine aJ (fun B=>?_) (fun B=>?_)
     ·refine aN dM hj ?_;refine eD aV ((g.cellS hS).trans M) ?_;refine ⟨bs x,rfl,by rw [<- a0,JX J];omega,?_,g⟩;rw [ag ⟨aD J,a0,by omega⟩] at l;exact l
     ·refine ⟨m,rfl,a1,?_,g⟩;rw [ae] at l
      ·exact l
      ·rintro ⟨_,_,h3⟩;omega
   ·skip
    refine ⟨fun D CW Cf N O U V Y Z tw pW qN wt rp lM rB pN pq oV nL ov ny m8 kI mx nH w_=>Fx D 0 [nH=ee (i:Int),mx=ee (x.size:Int),kI=ee ((i+x.size:Nat):Int),m8=.string (st s),ny=ee (s.length:Int),ov=.bool false,nL=.bool false,oV=undef,pq=undef,pN=undef,rB=undef,lM=undef,rp=undef,wt=undef,qN=undef,pW=undef,tw=undef,Z=undef,Y=.bool false,V=.bool false,U=undef,O=undef,N=undef,Cf=undef,CW=.bool false]/\Inv w [] [] S1 w_,⟨Fx.nil _ _,g.draw⟩,⟨?_,?_,?_,?_,?_,?_,?_,?_,?_,?_,?_,?_,?_,?_,?_,?_,?_,?_,?_,?_,?_,?_,?_,?_,?_,trivial⟩,?_⟩;all_goals (intro D bp;intros;rename_i CW Cf N O U V Y Z tw pW qN wt rp lM rB pN pq oV nL ov ny m8 kI mx nH w_ C;have a:=C.1;obtain ⟨⟨cF,ci,cG,cD,bU,cH,p,cR,dJ,dQ,cJ,dv,eG,gL,kz,kX,lU,qe,rL,r,uf,uy,wk,Fl,Mc,_⟩,g⟩:=C)
    ·exact ⟨a.set 0 rfl,g⟩
    ·exact ⟨a.set 1 rfl,g⟩
    ·obtain rfl:=cF ‹_›;obtain rfl:=ci ‹_›;refine bL (by omega) ?_;exact ⟨a.set 2 rfl,g⟩
    ·exact ⟨a.set 3 rfl,g⟩
    ·obtain rfl:=cD ‹_›;refine g6 bm ?_;exact ⟨a.set 4 rfl,g⟩
    ·obtain rfl:=cG ‹_›;obtain rfl:=bU ‹_›;refine Vu (by omega) ?_;exact ⟨a.set 5 rfl,g⟩
    ·obtain rfl:=cH ‹_›;exact ⟨a.set 6 rfl,g⟩
    ·obtain rfl:=p ‹_›;refine eY (c:=false) (b:=true) (by decide) ?_;exact ⟨a.set 7 rfl,g⟩
    ·obtain rfl:=p ‹_›;refine eY (c:=false) (b:=true) (by decide) ?_;exact ⟨a.set 8 rfl,g⟩
    ·obtain rfl:=p ‹_›;refine eY (c:=false) (b:=true) (by decide) ?_;exact ⟨a.set 9 rfl,g⟩
    ·obtain rfl:=p ‹_›;refine eY (c:=false) (b:=true) (by decide) ?_;exact ⟨a.set 10 rfl,g⟩
    ·obtain rfl:=dQ ‹_›;obtain rfl:=cJ ‹_›;obtain rfl:=p ‹_›;refine eY (c:=false) (b:=true) (by decide) ?_;exact ⟨a.set 11 rfl,g⟩
    ·obtain rfl:=cR ‹_›;obtain rfl:=dJ ‹_›;obtain rfl:=dv ‹_›;obtain rfl:=p ‹_›;refine eY (c:=false) (b:=true) (by decide) ?_;exact ⟨a.set 12 rfl,g⟩
    ·obtain rfl:=p ‹_›;refine eY (c:=false) (b:=true) (by decide) ?_;exact ⟨a.set 13 rfl,g⟩
    ·obtain rfl:=p ‹_›;refine eY (c:=false) (b:=true) (by decide) ?_;exact ⟨a.set 14 rfl,g⟩
    ·obtain rfl:=gL ‹_›;obtain rfl:=kz ‹_›;obtain rfl:=p ‹_›;refine eY (c:=false) (b:=true) (by decide) ?_;exact ⟨a.set 15 rfl,g⟩
    ·obtain rfl:=kX ‹_›;obtain rfl:=p ‹_›;refine eY (c:=false) (b:=true) (by decide) ?_;exact ⟨a.set 16 rfl,g⟩
    ·obtain rfl:=eG ‹_›;obtain rfl:=lU ‹_›;obtain rfl:=p ‹_›;refine eY (c:=false) (b:=true) (by decide) ?_;exact ⟨a.set 17 rfl,g⟩
    ·obtain rfl:=p ‹_›;obtain rfl:=qe ‹_›;refine tY ?_;exact ⟨a.set 18 rfl,g⟩
    ·obtain rfl:=rL ‹_›;exact ⟨a.set 19 rfl,g⟩
    ·obtain rfl:=r ‹_›;refine eY (c:=false) (b:=true) (by decide) ?_;exact ⟨a.set 20 rfl,g⟩
    ·obtain rfl:=r ‹_›;refine eY (c:=false) (b:=true) (by decide) ?_;exact ⟨a.set 21 rfl,g⟩
    ·obtain rfl:=uy ‹_›;obtain rfl:=r ‹_›;refine eY (c:=false) (b:=true) (by decide) ?_;exact ⟨a.set 22 rfl,g⟩
    ·obtain rfl:=uf ‹_›;obtain rfl:=wk ‹_›;obtain rfl:=r ‹_›;refine eY (c:=false) (b:=true) (by decide) ?_;exact ⟨a.set 23 rfl,g⟩
    ·obtain rfl:=r ‹_›;obtain rfl:=Fl ‹_›;refine tY ?_;exact ⟨a.set 24 rfl,g⟩
    obtain ⟨rfl,rfl,rfl,rfl,rfl,rfl,rfl,rfl,rfl,rfl,rfl,rfl,rfl,rfl,rfl,rfl,rfl,rfl,rfl,rfl,rfl,rfl,rfl,rfl,rfl,_⟩:=a.all;clear a cF ci cG cD bU cH p cR dJ dQ cJ dv eG gL kz kX lU qe rL r uf uy wk Fl Mc;refine aL (fun B=>by cases B) (fun _=>?_);refine ⟨m,rfl,a1,?_,g⟩;rw [ae] at l
    ·exact l
    ·rintro ⟨h1,_⟩;rw [bK] at h1;exact J h1
  intro t7 _ _ _ _ _ _ _ _ _ _ _ _ _ _ _ _ _ _ _ _ _ _ _ _ _ _ _ _ _ _ _ _ _ _ _ w';rintro ⟨q,rfl,a4,a6,g⟩;refine bL (by omega) ?_;exact ⟨⟨j+1,q,hj,rfl,rfl,a4,a6,g⟩,by simp [intOf];omega⟩
 ·have:j=signs.length:=by omega
  subst this;rw [eL,kC] at l;rw [<- l] at G;refine bT ?_;refine aJ (fun B=>?_) (fun B=>?_)
  ·have:m=[]:=by rw [<- HI m,B]
   exact Ci g a3 (by rw [G,ag this];rfl)
  ·have:¬ m=[]:=fun h=>B (by rw [h]);refine g6 bm ?_;refine bL (by omega) ?_;exact Ci g a3 (by rw [G,ae this];rfl)
end
theorem AG (s:Bs) (i:Nat):∀ (l:List ByteArray) (b:Bs),(∀ x∈l,x.size<=3)->b.length<=3->i+b.length<=s.length->i+(kC s i l b).length<=s.length/\(kC s i l b).length<=3
 | [],b,_,h2,h3=>⟨h3,h2⟩
 | x::l,b,h1,h2,h3=>by
  rw [kC];have g:(bs x).length=x.size:=Ox;split
  ·rename_i h
   exact AG s i l _ (fun y a=>h1 y (bI _ a)) (by rw [g];exact h1 x (bF ..)) (by rw [g];exact of_decide_eq_true h.1)
  ·exact AG s i l _ (fun y a=>h1 y (bI _ a)) h2 h3
theorem Ru (s:Bs):∀ (n e:Nat),e<=Dj s n e/\Dj s n e<=e+n
 | 0,e=>by simp [Dj]
 | n+1,e=>by
  rw [Dj];split
  ·have:=Ru s n (e+1);omega
  ·omega
theorem wZ {s:Bs} {i:Nat} {n:Bs} {e:Nat} (j:i<s.length) (h:xO s i=some (n,e)):i<e/\e<=s.length/\n.length<=6/\n≠[]:=by
 have q:=Ru s (s.length - i) i;have r:=AG s i signs [] Oy (by simp) (by simpa using Nat.le_of_lt j);unfold xO at h;simp only [] at h;split at h
 ·cases h
 ·split at h
  ·simp only [bj,c9] at h;obtain ⟨rfl,rfl⟩:=h;rename_i p m
   have hc:=JX (s:=s) (a:=i) (b:=Dj s (s.length - i) i) (by omega);refine ⟨m,by omega,by omega,fun h=>?_⟩;rw [h] at hc;simp at hc;omega
  ·split at h
   ·cases h
   ·simp only [bj,c9] at h;obtain ⟨rfl,rfl⟩:=h;rename_i g
    have:0<(kC s i signs []).length:=by
     cases o:kC s i signs [] with
     | nil=>exact absurd o g
     | cons a l=>simp
    exact ⟨by omega,by omega,by omega,g⟩
def opV (o:Option (Bs × Nat)) (i:Nat):Value:=match o with
 | none=>.tuple #[.string ⟨#[]⟩,.int .i64 (i:Int)]
 | some (n,e)=>.tuple #[.string (st n),.int .i64 (e:Int)]
theorem UM {s:Bs} {i:Nat} {n:Bs} {e:Nat} (h:opF s i=some (n,e)):i<e/\e<=s.length/\n.length<=6/\n≠[]:=by
 unfold opF at h;obtain ⟨fr,a⟩:∃ fr,fr=if sgn s i 32=true then i+1 else i:=⟨_,rfl⟩
 simp only [<- a] at h;have q:i<=fr:=by rw [a];split <;> omega
 split at h
 ·cases h
 rename_i j
 split at h
 ·cases h
 rename_i nm r g
 obtain ⟨t,m,o,p⟩:=wZ (by omega) g;split at h
 ·cases h
 rename_i hc
 simp only [not_or,not_and,Bool.not_eq_false] at hc;simp only [bj,c9] at h;obtain ⟨rfl,rfl⟩:=h;refine ⟨by split <;> omega,?_,o,p⟩;split
 ·rename_i l
  have:=jZ (hc.2.2 l);omega
 ·exact m
section
theorem PY {s:Bs} {i:Nat} (M:s.length<=100000) (V:i<=s.length) (S:ai):ru UR [.string (st s),ee (i:Int)] S (opV (opF s i) i):=by
 intro w a;refine H0.2 ?_;dsimp only[H0,bv];obtain ⟨fr,o⟩:∃ fr,fr=if sgn s i 32=true then i+1 else i:=⟨_,rfl⟩
 have O:i<=fr/\fr<=i+1:=by rw [o];split <;> omega
 obtain ⟨r,j⟩:∃ r,r=opF s i:=⟨_,rfl⟩
 rw [<- j];unfold opF at j;simp only [<- o] at j;refine ⟨fun t w'=>t=ee (fr:Int)/\Inv w [] [] S w',?_,?_⟩
 ·refine Run.callPure ey ez a (dN s i 32 S) fun w' a=>?_;refine aL (fun p=>?_) (fun p=>?_)
  ·refine bL (by omega) ?_;rw [ag p] at o;exact ⟨by rw [o];congr 1,a⟩
  ·rw [ae (by rw [p];decide)] at o;exact ⟨by rw [o],a⟩
 intro Y _ _ _ _ _ w';rintro ⟨rfl,a⟩;refine g6 bm ?_;refine iK ?_;refine aJ (fun p=>?_) (fun p=>?_)
 ·rw [ag (by omega)] at j;exact done a (by rw [j];rfl)
 rw [ae (by omega)] at j;refine Run.callPure CR Cw a (zi (by omega) M S) fun w' a=>?_;cases B:xO s fr with
 | none=>
  rw [B] at j;simp only [] at j;simp only [Rl];refine aA rfl ?_;refine aA rfl ?_;refine ⟨fun t w'=>t=.bool true/\Inv w [] [] S w',?_,?_⟩
  ·refine EP (by omega) ?_;refine rpG ?_;exact ⟨rfl,a⟩
  intro D _ _ _ _ _ _ w';rintro ⟨rfl,a⟩;exact aL (fun _=>done a (by rw [j];rfl)) (fun p=>by cases p)
 | some q=>
  obtain ⟨nm,C⟩:=q;rw [B] at j;simp only [] at j;obtain ⟨h1,h2,h3,h4⟩:=wZ (by omega) B;simp only [Rl];refine aA (v:=.string (st nm)) rfl ?_;refine aA (v:=ee (C:Int)) rfl ?_;refine ⟨fun t w'=>t=.bool (decide (dA (st nm)=0))/\Inv w [] [] S w',?_,?_⟩
  ·refine gu (by omega) ?_;refine rpG ?_;refine Run.callPure ia hZ a (fQ _ S) fun w' a=>?_;refine a9 ?_;refine rpG ?_;exact ⟨rfl,a⟩
  intro D _ _ _ _ _ _ w';rintro ⟨rfl,a⟩;refine aJ (fun p=>?_) (fun p=>?_)
  ·rw [ag (.inl p)] at j;exact done a (by rw [j];rfl)
  obtain ⟨g,m⟩:∃ g,g=(decide (nm=[105,115]) || decide (nm=[109,111,100])):=⟨_,rfl⟩
  rw [<- m] at j;refine ⟨fun t w'=>t=.bool g/\Inv w [] [] S w',?_,?_⟩
  ·refine F0 (b:=[105,115]) ?_;cases J:decide (nm=[105,115])
   ·refine rpG ?_;refine F0 (b:=[109,111,100]) ?_;refine rpG ?_;exact ⟨by rw [m,J,jb],a⟩
   ·refine rpG ?_;exact ⟨by rw [m,J,za],a⟩
  intro Z _ _ _ _ _ _ w';rintro ⟨rfl,a⟩;refine ⟨fun t w'=>t=.bool (decide (g≠decide (i<fr)) || (g && !sgn s C 32))/\Inv w [] [] S w',?_,?_⟩
  ·refine fL ?_;refine Pa DO ?_;have U:decide ((i:Int)<(fr:Int))=decide (i<fr):=by rw [cW];omega
   rw [U];cases h6:decide (i<fr) <;> cases g
   ·refine rpG ?_;exact ⟨by rfl,a⟩
   ·refine rpG ?_;exact ⟨by rfl,a⟩
   ·refine rpG ?_;exact ⟨by rfl,a⟩
   ·refine rpG ?_;refine Run.callPure ey ez a (dN s C 32 S) fun w' a=>?_;refine c8 ?_;refine rpG ?_;exact ⟨by simp,a⟩
  intro N _ _ _ _ _ _ _ _ _ _ _ _ _ w';rintro ⟨rfl,a⟩;refine aL (fun l=>?_) (fun l=>?_)
  ·rw [ag] at j
   ·exact done a (by rw [j];rfl)
   ·rw [na,bK,bQ,ry] at l;exact .inr l
  ·rw [ae] at j
   ·refine ⟨fun t w'=>t=ee ((if g=true then C+1 else C:Nat):Int)/\Inv w [] [] S w',?_,?_⟩
    ·refine aL (fun G=>?_) (fun G=>?_)
     ·refine bL (by omega) ?_;exact ⟨by rw [ag G];congr 1,a⟩
     ·exact ⟨by rw [ae (by rw [G];decide)],a⟩
    intro t8 _ _ _ w';rintro ⟨rfl,a⟩;exact done a (by rw [j];rfl)
   ·rw [QN,nu] at l;rintro (h|h|⟨h,h'⟩)
    ·exact p h
    ·exact l.1 h
    ·rw [h,h'] at l;simp at l
end
end
section
open Go Go.RowKit
theorem Inv.pubExt {w0 w:World} {X:List Nat} {A:List Item} {S:ai} {L:bN} (h:Inv w0 X (A++bO L) S w) :
  ∃ S',Inv w0 X A S' w/\Ext w0.heap.size X S S'/\Ins S' L:=by
 obtain ⟨S',i,j,l,m⟩:=h.publishAll L;refine ⟨S',i,⟨j,fun b o g=>?_⟩,l⟩;rcases m b o g with a|a
 ·exact .inl a
 ·right;exact h.new b (by rw [dh];exact gy _ a)
theorem Inv.pub1 {w0 w:World} {X:List Nat} {A:List Item} {S:ai} {b:Nat} {o:Obj} (h:Inv w0 X (A++[.blk b o]) S w) :
  ∃ S',Inv w0 X A S' w/\Ext w0.heap.size X S S'/\S' b=some o:=by
 obtain ⟨S',a,g,i⟩:=Inv.pubExt (A:=A) (L:=[(b,o)]) h;exact ⟨S',a,g,i _ (bM.2 rfl)⟩
theorem Rows.monoR {α:Type} {k:Nat} {R R':nA->α->Prop} {css:List (nA)} {ys:List α} (h:Rows k R css ys) (hR:∀ cs y,R cs y->R' cs y):Rows k R' css ys:=⟨h.hc,h.hk,fun i a g=>hR _ _ (h.hR i a g)⟩
theorem Rows.one {α:Type} {k:Nat} {R:nA->α->Prop} {cs:nA} {y:α} (hR:R cs y) (a:cs.length=k):Rows k R [cs] [y]:=by
 have:=(Rows.nil k R).snoc hR a;exact this
section
variable {P:Program} {w w0:World} {X:List Nat} {L:List Item} {S:ai} {K:Value->World->Prop}
theorem Run.call0E {f:FuncId} {fn:Func} {args:nA} {Post:Value->List Item->ai->Prop}
  (hf:P.funcs[f]?=some fn) (hn:(fn.name == "runtime.NumGoroutine" || fn.body.isNone)=false) (h:Inv w0 X L S w) (hc:Tri P f args [] S Post)
  (hk:∀ v I' S' w',Post v I' S'->Ext w0.heap.size X S S'->Inv w0 X (L++I') S' w'->K v w'):Run P (gn (.func (.func f) #[] #[]) args) w K:=by
 refine Run.callP hf hn ((hc w h.nil.begin).mono ?_);rintro e w' ⟨v,I',S',rfl,i,g,j⟩;refine hk v I' S' w' j ⟨g.1,fun b o l=>?_⟩ (Inv.step (A:=L) (B:=[]) (by simpa using h) i g.2);rcases g.2 b o l with a|a|a
 ·exact .inl a
 ·simp [cg] at a
 ·exact .inr (.inr (il h.size a))
end
theorem Ext.trans {n:Nat} {Y:List Nat} {S S' S'':ai} (h:Ext n Y S S') (g:Ext n Y S' S''):Ext n Y S S'':=by
 refine ⟨h.1.trans g.1,fun b o i=>?_⟩;rcases g.2 b o i with a|a
 ·exact h.2 b o a
 ·exact .inr a
section
variable {P:Program} {w w0:World} {X:List Nat} {A I:List Item} {S:ai} {K:Value->World->Prop}
theorem VK {f:FuncId} {args:nA} {Post:Value->List Item->ai->Prop} (h:Inv w0 X (A++I) S w) (hc:Tri P f args I S Post) :
  Calls P f args.toArray w fun e w'=>∃ v I' S',e=.returned v/\Inv w0 X (A++I') S' w'/\Ext w0.heap.size X S S'/\Post v I' S':=by
 refine (hc w (h.sub (fj A I)).begin).mono ?_;rintro e w' ⟨v,I',S',rfl,i,g,j⟩;refine ⟨v,I',S',rfl,Inv.step h i g.2,⟨g.1,fun b o l=>?_⟩,j⟩;rcases g.2 b o l with a|a|a
 ·exact .inl a
 ·exact .inr (h.new b (by rw [dh];exact gy _ a))
 ·exact .inr (.inr (il h.size a))
theorem Run.callE {f:FuncId} {fn:Func} {args:nA} {Post:Value->List Item->ai->Prop}
  (hf:P.funcs[f]?=some fn) (hn:(fn.name == "runtime.NumGoroutine" || fn.body.isNone)=false) (h:Inv w0 X (A++I) S w) (hc:Tri P f args I S Post)
  (hk:∀ v I' S' w',Post v I' S'->Ext w0.heap.size X S S'->Inv w0 X (A++I') S' w'->K v w'):Run P (gn (.func (.func f) #[] #[]) args) w K:=by
 refine Run.callP hf hn ((VK h hc).mono ?_);rintro e w' ⟨v,I',S',rfl,a,g,i⟩;exact hk v I' S' w' i g a
theorem Run.callVE {f:FuncId} {fn:Func} {cap args:nA} {Post:Value->List Item->ai->Prop}
  (hf:P.funcs[f]?=some fn) (hn:(fn.name == "runtime.NumGoroutine" || fn.body.isNone)=false) (h:Inv w0 X (A++I) S w) (hc:Tri P f (args++cap) I S Post)
  (hk:∀ v I' S' w',Post v I' S'->Ext w0.heap.size X S S'->Inv w0 X (A++I') S' w'->K v w'):Run P (gn (fv f cap) args) w K:=by
 unfold Run;rw [Iy hf hn];refine (VK h hc).mono ?_;rintro e w' ⟨v,I',S',rfl,a,g,i⟩;exact hk v I' S' w' i g a
end
theorem Inv.lendExt {w0 w:World} {X:List Nat} {A:List Item} {S:ai} {v:Value} {e:TypeId} {k:Nat} {css:List (nA)} (h:Inv w0 X (A++[aB v e k css]) S w) :
  ∃ S',Ext w0.heap.size X S S'/\RowRd S' v e k css.length css.flatten/\Inv w0 X A S' w:=by
 obtain ⟨m,o⟩:=h.openRow;rcases o with ⟨rfl,t⟩|⟨g,cap,a,rfl,i,j,l,B,C⟩
 ·exact ⟨S,Ext.refl _ _ _,⟨m,.inl ⟨rfl,t⟩⟩,h.sub (gV _ _)⟩
 ·obtain ⟨S',p,q,r⟩:=Inv.pub1 (A:=A) C;exact ⟨S',q,⟨m,.inr ⟨g,cap,a,rfl,r,i,j,l,B⟩⟩,p⟩
end
end Go.Proofs.YtjbcdmheajljpaaGreat
