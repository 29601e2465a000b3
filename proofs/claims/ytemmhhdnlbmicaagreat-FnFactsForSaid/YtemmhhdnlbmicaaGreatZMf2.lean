/- Plain functions: texts of terms and clauses, and how texts are read. Fuel runs out: none. -/
import Derived.Test.YtemmhhdnlbmicaaGreatZMf0
import Derived.Test.YtemmhhdnlbmicaaGreatZMf1
namespace Go.Proofs.YtemmhhdnlbmicaaGreat
open Go Go.RowKit

abbrev Bs:=List UInt8
abbrev bs (s:ByteArray):Bs:=s.data.toList
abbrev st (l:Bs):ByteArray:=⟨l.toArray⟩
theorem GS (s:ByteArray):st (bs s)=s:=rfl
theorem wu (l:Bs):bs (st l)=l:=by simp [bs]
theorem iU (l:Bs):(st l).size=l.length:=by simp [ByteArray.size]

def sgn (s:Bs) (i:Nat) (c:Nat):Bool:=match s[i]? with
 | some b=>decide (b.toNat=c)
 | none=>false
def btw (s:Bs) (i:Nat) (a b:Nat):Bool:=match s[i]? with
 | some x=>decide (a<=x.toNat) && decide (x.toNat<=b)
 | none=>false
def sml (s:Bs) (i:Nat):Bool:=btw s i 97 122
def dig (s:Bs) (i:Nat):Bool:=btw s i 48 57
def upp (s:Bs) (i:Nat):Bool:=btw s i 65 90
def cut (s:Bs) (a b:Nat):Bs:=(s.take b).drop a

def rU (s:Bs):Nat->Nat->Nat
 | 0,e=>e
 | n+1,e=>if sml s e=true then rU s n (e+1) else e
def gb (s:Bs) (i:Nat):List ByteArray->Bs->Bs
 | [],b=>b
 | x::l,b=>gb s i l (if decide (i+x.size<=s.length)=true/\cut s i (i+x.size)=bs x/\b.length<x.size then bs x else b)
def kl (s:Bs) (i:Nat):Option (Bs × Nat):=
 let e:=rU s (s.length - i) i
 if i+6<e then none else if i<e then some (cut s i e,e) else
  let b:=gb s i signs []
  if b=[] then none else some (b,i+b.length)
def mn (s:Bs):Nat->Nat->Nat
 | 0,e=>e
 | n+1,e=>if dig s e=true then mn s n (e+1) else e
def vW:Bs->Nat->Nat
 | [],n=>n
 | b::l,n=>vW l (n * 10+(b.toNat - 48))
def Ex (s:Bs) (i:Nat):Option (T × Nat):=
 let from_:=if sgn s i 45=true then i+1 else i
 let e:=mn s 4 from_
 let d:=cut s from_ e
 let n:=vW d 0
 if d=[] ∨ (sgn d 0 48=true/\1<d.length) ∨ (i<from_/\n=0) ∨ 999<n then none
 else some (.mk 2 (if i<from_ then -(n:Int) else n) emptyB [],e)
def r9 (name:Bs) (kids:List T):T:=.mk 3 0 (st name) kids
def Gs:T:=r9 [91,93] []
def zH (a b:T):T:=r9 [46] [a,b]
def gh:List T->T->T
 | [],t=>t
 | a::l,t=>zH a (gh l t)
def opF (s:Bs) (i:Nat):Option (Bs × Nat):=
 let from_:=if sgn s i 32=true then i+1 else i
 if s.length<=from_ then none else match kl s from_ with
  | none=>none
  | some (name,next)=>
   let word:=decide (name=[105,115]) || decide (name=[109,111,100])
   if dG (st name)=0 ∨ word≠decide (i<from_) ∨ (word=true/\sgn s next 32=false) then none
   else some (name,if word=true then next+1 else next)
mutual
def gC:Nat->Bs->Nat->Nat->Nat->Option (T × Nat)
 | 0,_,_,_,_=>none
 | f+1,s,i,d,0=>nn f s i d
 | f+1,s,i,d,l+1=>match gC f s i d l with
  | none=>none
  | some (t,n)=>zb f s n d l t
def zb:Nat->Bs->Nat->Nat->Nat->T->Option (T × Nat)
 | 0,_,_,_,_,_=>none
 | f+1,s,i,d,l,t=>match opF s i with
  | none=>some (t,i)
  | some (name,after)=>if dG (st name)=((l+1:Nat):Int) then match gC f s after d l with
    | none=>none
    | some (r,e)=>if l=2 then some (r9 name [t,r],e) else zb f s e d l (r9 name [t,r])
   else some (t,i)
def nn:Nat->Bs->Nat->Nat->Option (T × Nat)
 | 0,_,_,_=>none
 | f+1,s,i,d=>if d=0 ∨ s.length<=i then none else if sgn s i 40=true then match gC f s (i+1) d 3 with
    | none=>none
    | some (t,n)=>if sgn s n 41=true then some (t,n+1) else none
  else if sgn s i 91=true/\sgn s (i+1) 93=false then match f0 f s (i+1) (d - 1) 93 124 [] with
    | none=>none
    | some (ts,n)=>if sgn s n 93=true then some (gh ts Gs,n+1) else match gC f s (n+1) (d - 1) 3 with
     | none=>none
     | some (t,e)=>if sgn s e 93=true then some (gh ts t,e+1) else none
  else if upp s i=true then some (.mk 1 ((s.getD i 0).toNat - 65) emptyB [],i+1)
  else if dig s i=true ∨ (sgn s i 45=true/\dig s (i+1)=true) then Ex s i
  else match kl s i with
   | none=>none
   | some (name,n)=>if sgn s n 40=false then some (r9 name [],n) else match f0 f s (n+1) (d - 1) 41 41 [] with
    | none=>none
    | some (ts,e)=>some (r9 name ts,e+1)
def f0:Nat->Bs->Nat->Nat->Nat->Nat->List T->Option (List T × Nat)
 | 0,_,_,_,_,_,_=>none
 | f+1,s,i,d,e,o,acc=>match gC f s i d 3 with
  | none=>none
  | some (t,n)=>if sgn s n e=true ∨ sgn s n o=true then some (acc++[t],n) else if sgn s n 44=true then f0 f s (n+1) d e o (acc++[t]) else none
end

/- texts -/
def jM (t:T):Bool:=decide (t.kind=3) && (decide (t.kids.length=2) && decide (0<dG t.name))
def n8 (t:T):Bool:=decide (t.kind=3) && (decide (t.name=st [46]) && decide (t.kids.length=2))
def EQ (t:T):Bool:=decide (t.kind=3) && (decide (t.name=st [91,93]) && decide (t.kids.length=0))
def rj (t:T):Bool:=decide (t.kind=3) && (decide (t.kids.length=0) && decide (0<dG t.name))
def xj (s:Bs):Bool:=sml s 0 || (dig s 0 || (upp s 0 || (sgn s 0 91 || sgn s 0 40)))
def fQ (n:Bs):Bs:=if n=[105,115] ∨ n=[109,111,100] then 32::(n++[32]) else n
def vx:Nat->Nat->Bs->Option Bs
 | 0,_,_=>none
 | f+1,n,out=>if 9<n then vx f (n / 10) (UInt8.ofNat (48+n % 10)::out) else some (UInt8.ofNat (48+n)::out)
def Ge (n:Int):Option Bs:=if n<0 then (vx 20 (-n).toNat []).map fun l=>45::l else vx 20 n.toNat []
def Cp (t:T):Option Bs:=if t.kind=1 then (if 0<=t.n/\t.n<=25 then some [UInt8.ofNat (65+t.n.toNat)] else none)
 else if t.kind=2 then (if -999<=t.n/\t.n<=999 then Ge t.n else none) else if t.kids.length=0 then some (bs t.name) else none
mutual
def yk:Nat->T->Option Bs
 | 0,_=>none
 | f+1,t=>if n8 t=true then ww f t [] else if jM t=true then match t.kids with
   | [a,b]=>match CJ f a (if dG t.name=3 then 2 else dG t.name),xL f b (dG t.name - 1) with
    | some x,some y=>some (x++fQ (bs t.name)++y)
    | _,_=>none
   | _=>none
  else if t.kind=3/\0<t.kids.length then match ky f t.kids [] with
   | some x=>some (bs t.name++[40]++x++[41])
   | none=>none
  else Cp t
def ww:Nat->T->List T->Option Bs
 | 0,_,_=>none
 | f+1,t,items=>if n8 t=true then match t.kids with
   | [a,b]=>ww f b (items++[a])
   | _=>none
  else match ky f items [] with
   | none=>none
   | some x=>if EQ t=true then some ([91]++x++[93]) else match yk f t with
    | none=>none
    | some y=>some ([91]++x++[124]++y++[93])
def ky:Nat->List T->Bs->Option Bs
 | 0,_,_=>none
 | _+1,[],out=>some out
 | f+1,t::l,out=>match yk f t with
  | none=>none
  | some x=>ky f l (out++x++(if l=[] then [] else [44]))
def lY:Nat->T->Int->Option Bs
 | 0,_,_=>none
 | f+1,t,l=>match yk f t with
  | none=>none
  | some x=>some (if jM t=true/\l<dG t.name then [40]++x++[41] else x)
def CJ:Nat->T->Int->Option Bs
 | 0,_,_=>none
 | f+1,t,l=>if rj t=true then match yk f t with
   | none=>none
   | some x=>some ([40]++x++[41])
  else lY f t l
def xL:Nat->T->Int->Option Bs
 | 0,_,_=>none
 | f+1,t,l=>match lY f t l with
  | none=>none
  | some x=>if x=[] then none else some (if rj t=true ∨ xj x=false then [40]++x++[41] else x)
end
def qR (f:Nat):List T->Bool->Bs->Option Bs
 | [],_,out=>some out
 | t::l,first,out=>match yk f t with
  | none=>none
  | some x=>qR f l false (out++(if first=true then [58,45] else [44])++x)
def CD (f:Nat) (c:C):Option Bs:=match yk f c.head with
 | none=>none
 | some x=>match qR f c.body true x with
  | none=>none
  | some y=>some (y++[46])

/- clauses and programs -/
def no (f:Nat):Nat->Bs->Nat->List T->Option (List T × Nat)
 | 0,_,_,_=>none
 | k+1,s,i,acc=>if 6<acc.length then none else match gC f s i 30 3 with
  | none=>none
  | some (t,n)=>if sgn s n 44=true then no f k s (n+1) (acc++[t]) else some (acc++[t],n)
def Dz (f:Nat) (s:Bs) (c:C) (n:Nat):Option C:=
 if n+1=s.length/\sgn s n 46=true/\dt c=true/\wC c<=200/\CD f c=some s then some c else none
def pp (f:Nat) (s:Bs):Option C:=if 1000<s.length then none else match gC f s 0 30 3 with
 | none=>none
 | some (h,n)=>if sgn s n 58=true/\sgn s (n+1) 45=true then match no f 8 s (n+2) [] with
   | none=>none
   | some (b,n2)=>Dz f s ⟨h,b⟩ n2
  else Dz f s ⟨h,[]⟩ n
def vo (s:Bs) (c:Nat):Nat->Nat->Nat->List Bs->List Bs
 | 0,i,from_,acc=>acc++[cut s from_ i]
 | n+1,i,from_,acc=>if sgn s i c=true then vo s c n (i+1) (i+1) (acc++[cut s from_ i]) else vo s c n (i+1) from_ acc
def ES (s:Bs):List Bs:=vo s 10 s.length 0 0 []
def iu (f:Nat):List Bs->List C->Option (List C)
 | [],acc=>some acc
 | l::ls,acc=>match pp f l with
  | none=>none
  | some c=>iu f ls (acc++[c])
def CT (f:Nat) (s:Bs):Option (List C):=
 let ls:=ES s
 if 21<ls.length ∨ ls.getLast?≠some [] then none else iu f ls.dropLast []
def DU (s:Bs):Bool:=match CT 60 s with
 | some p=>decide (0<p.length) && (decide (p.length<=8) && p.all fun c=>dt c && decide (wC c<=200))
 | none=>false
end Go.Proofs.YtemmhhdnlbmicaaGreat

/- More rules: arithmetic, conversions, texts joined and cut. -/
namespace Go.Proofs.YtemmhhdnlbmicaaGreat
open Go Go.RowKit
section
variable {P:Program} {w w0:World} {X:List Nat} {L:List Item} {S:av} {K:Value->World->Prop}
theorem sN {T:TypeId} {cx cy:Bool} {k:IntKind} {a b:Int} (h:a<b) (hk:K (.bool true) w):Run P (ao .lss T cx cy (.int k a) (.int k b)) w K:=by
 refine co ?_
 rw [decide_eq_true h]
 exact hk
theorem dI {T:TypeId} {cx cy:Bool} {k:IntKind} {a b:Int} (h:¬ (a<b)) (hk:K (.bool false) w):Run P (ao .lss T cx cy (.int k a) (.int k b)) w K:=by
 refine co ?_
 rw [decide_eq_false h]
 exact hk
theorem tT {T:TypeId} {cx cy:Bool} {k:IntKind} {a b:Int} (h:a<=b) (hk:K (.bool true) w):Run P (ao .leq T cx cy (.int k a) (.int k b)) w K:=by
 refine fI ?_
 rw [decide_eq_true h]
 exact hk
theorem EM {T:TypeId} {cx cy:Bool} {k:IntKind} {a b:Int} (h:¬ (a<=b)) (hk:K (.bool false) w):Run P (ao .leq T cx cy (.int k a) (.int k b)) w K:=by
 refine fI ?_
 rw [decide_eq_false h]
 exact hk
theorem Ci {T:TypeId} {cx cy:Bool} {k:IntKind} {a b:Int} (h:b<a) (hk:K (.bool true) w):Run P (ao .gtr T cx cy (.int k a) (.int k b)) w K:=by
 refine dS ?_
 rw [decide_eq_true h]
 exact hk
theorem i7 {T:TypeId} {cx cy:Bool} {k:IntKind} {a b:Int} (h:¬ (b<a)) (hk:K (.bool false) w):Run P (ao .gtr T cx cy (.int k a) (.int k b)) w K:=by
 refine dS ?_
 rw [decide_eq_false h]
 exact hk
theorem i6 {T:TypeId} {cx cy:Bool} {k:IntKind} {a b:Int} (h:b<=a) (hk:K (.bool true) w):Run P (ao .geq T cx cy (.int k a) (.int k b)) w K:=by
 refine q9 ?_
 rw [decide_eq_true h]
 exact hk
theorem kS {T:TypeId} {cx cy:Bool} {k:IntKind} {a b:Int} (h:¬ (b<=a)) (hk:K (.bool false) w):Run P (ao .geq T cx cy (.int k a) (.int k b)) w K:=by
 refine q9 ?_
 rw [decide_eq_false h]
 exact hk
theorem eH {T:TypeId} {cx cy:Bool} {k:IntKind} {a b:Int} (h:a=b) (hk:K (.bool true) w):Run P (ao .eql T cx cy (.int k a) (.int k b)) w K:=by
 refine cw ?_
 rw [decide_eq_true h]
 exact hk
theorem dw {T:TypeId} {cx cy:Bool} {k:IntKind} {a b:Int} (h:¬ (a=b)) (hk:K (.bool false) w):Run P (ao .eql T cx cy (.int k a) (.int k b)) w K:=by
 refine cw ?_
 rw [decide_eq_false h]
 exact hk
theorem wv {T:TypeId} {cx cy:Bool} {a b:Int} (hr:-9223372036854775808<=a * b/\a * b<=9223372036854775807) (hk:K (.int .i64 (a * b)) w):Run P (ao .mul T cx cy (.int .i64 a) (.int .i64 b)) w K:=
 Run.of (by simp [ao,cT,binOp,Op.intArith,IntWalk.i64_in _ hr]) hk
theorem Gn {T:TypeId} {cx cy:Bool} {a b:Nat} (hb:0<b) (ha:a<=9223372036854775807) (hk:K (.int .i64 ((a / b:Nat):Int)) w):Run P (ao .quo T cx cy (.int .i64 (a:Int)) (.int .i64 (b:Int))) w K:=by
 refine Run.of ?_ hk
 have h0:¬ ((b:Int)=0):=by omega
 have h1:IntKind.i64.wrap ((a:Int).tdiv b)=((a / b:Nat):Int):=by
  rw [IntWalk.i64_quo _ _ (by omega)]; rfl
 simp only [ao,cT,binOp,Op.intDiv,Sem.run_bind,Result.andThen_ok,if_neg h0,Sem.run_pure]
 exact congrArg (fun v=>Result.ok (Next.value (.int .i64 v)) w) h1
theorem A1 {T:TypeId} {cx cy:Bool} {a b:Nat} (hb:0<b) (hk:K (.int .i64 ((a % b:Nat):Int)) w):Run P (ao .rem T cx cy (.int .i64 (a:Int)) (.int .i64 (b:Int))) w K:=by
 refine Run.of ?_ hk
 have h1:(a:Int).tmod b=((a % b:Nat):Int):=by
  rw [IntWalk.rem_in _ _ (by omega)]; rfl
 have h0:¬ ((b:Int)=0):=by omega
 simp only [ao,cT,binOp,Op.intDiv,Sem.run_bind,Result.andThen_ok,if_neg h0,Sem.run_pure]
 exact congrArg (fun v=>Result.ok (Next.value (.int .i64 v)) w) h1
theorem Gd {T:TypeId} {cx cy:Bool} {a b:Nat} (ha:a<4611686018427387904) (hb:b<4611686018427387904) (hk:K (.int .i64 ((a ^^^ b:Nat):Int)) w):Run P (ao .xor T cx cy (.int .i64 (a:Int)) (.int .i64 (b:Int))) w K:=by
 refine Run.of ?_ hk
 have hx:a ^^^ b<2 ^ 62:=Nat.xor_lt_two_pow (by simpa using ha) (by simpa using hb)
 have e1:(BitVec.ofInt 64 (a:Int)).toNat=a:=by rw [BitVec.toNat_ofInt]; omega
 have e2:(BitVec.ofInt 64 (b:Int)).toNat=b:=by rw [BitVec.toNat_ofInt]; omega
 have h1:IntKind.i64.wrap ((BitVec.ofInt 64 (a:Int) ^^^ BitVec.ofInt 64 (b:Int)).toNat:Int)=((a ^^^ b:Nat):Int):=by
  rw [BitVec.toNat_xor,e1,e2]
  exact IntWalk.i64_in _ (by omega)
 simp only [ao,cT,binOp,Op.intBits,Sem.run_bind,Result.andThen_ok,Sem.run_pure]
 exact congrArg (fun v=>Result.ok (Next.value (.int .i64 v)) w) h1
theorem Gt {T:TypeId} {cx cy:Bool} {k:IntKind} {a b c:Int} (hr:k.wrap (a+b)=c) (hk:K (.int k c) w):Run P (ao .add T cx cy (.int k a) (.int k b)) w K:=
 Run.of (by simp [ao,cT,binOp,Op.intArith,hr]) hk
theorem BZ {T:TypeId} {cx cy:Bool} {k:IntKind} {a b c:Int} (hr:k.wrap (a - b)=c) (hk:K (.int k c) w):Run P (ao .sub T cx cy (.int k a) (.int k b)) w K:=
 Run.of (by simp [ao,cT,binOp,Op.intArith,hr]) hk
theorem jV {src dst ty:TypeId} {k k':IntKind} {n m:Int} {d:TypeDesc} (hs:P.underlying src=some d) (hd:P.underlying dst=some (.int k')) (hr:k'.wrap n=m) (hk:K (.int k' m) w) :
  Run P (sOp (.convert src dst (.const (.int k n))) ty) w K:=by
 refine Run.of ?_ hk
 simp [sOp,execOp,ev0,evE,convert,run_underlying hs,run_underlying hd,Conv.intToInt,hr]
theorem FT {T ty:TypeId} {n:Int} (hr:-9223372036854775808<=-n/\-n<=9223372036854775807) (hk:K (.int .i64 (-n)) w):Run P (sOp (.unOp .neg T (.const (.int .i64 n))) ty) w K:=
 Run.of (by simp [sOp,execOp,ev0,evE,Op.unary,Op.intArith,Int.zero_sub,IntWalk.i64_in _ hr]) hk
theorem F5 (a b:Bs):st a++st b=st (a++b):=by
 apply ByteArray.ext
 simp [st]
theorem cY {T:TypeId} {cx cy:Bool} {a b:Bs} (hl:a.length+b.length<=9223372036854775807) (hk:K (.string (st (a++b))) w):Run P (ao .add T cx cy (.string (st a)) (.string (st b))) w K:=by
 refine Run.of ?_ hk
 have h1:¬ (9223372036854775807<(((st a).size+(st b).size:Nat):Int)):=by rw [iU,iU]; omega
 have h2:IntKind.i64.max=9223372036854775807:=by decide
 simp only [ao,binOp,Op.stringOp,Sem.run_bind,gD,Result.andThen_ok,gt_iff_lt,h2,if_neg h1,Sem.run_pure,F5]
theorem Gp (s:Bs) (a b:Nat):(st s).extract a b=st (cut s a b):=by
 apply ByteArray.ext
 apply Array.toList_inj.1
 simp [cut,ByteArray.data_extract,List.drop_take]
theorem uj {T ty:TypeId} {s:Bs} {a b:Nat} (hu:P.underlying T=some .string) (hab:a<=b) (hb:b<=s.length) (hk:K (.string (st (cut s a b))) w) :
  Run P (sOp (.slice T (.const (.string (st s))) (some (.const (.int .i64 a))) (some (.const (.int .i64 b))) none) ty) w K:=by
 refine Run.of ?_ hk
 have hb':b<=(st s).size:=by rw [iU]; exact hb
 simp [sOp,execOp,ev0,evE,Instr.sliceAt,Instr.slice,Instr.sliceBounds,run_underlying hu,gV hab,gV hb',Gp]
/- a byte out of a text -/
theorem dn {T ty:TypeId} {s:Bs} {i:Nat} (hu:P.underlying T=some .string) (hi:i<s.length) (hk:K (.int .u8 s[i].toNat) w) :
  Run P (sOp (.index T (.const (.string (st s))) (.const (.int .i64 i))) ty) w K:=by
 have hi':i<(st s).size:=by rw [iU]; exact hi
 refine il hu hi' ?_
 have:(st s)[i]=s[i]:=by simp [st,ByteArray.getElem_eq_getElem_data]
 rw [this]
 exact hk
theorem ek {T ty:TypeId} {cs:List Bool} {s:Bs} (hu:P.underlying T=some .string) (hk:K (.int .i64 s.length) w):Run P (aq .len #[T] ty cs [.string (st s)]) w K:=by
 refine gw hu ?_
 rw [iU]
 exact hk
theorem s5 {T:TypeId} {cx cy:Bool} {a b:Bs} (hk:K (.bool (decide (a=b))) w):Run P (ao .eql T cx cy (.string (st a)) (.string (st b))) w K:=by
 refine dj ?_
 have:decide (st a=st b)=decide (a=b):=by
  rw [decide_eq_decide]
  exact ⟨fun h=>by rw [<- wu a,h,wu],fun h=>by rw [h]⟩
 rw [this]
 exact hk
theorem Cu {T:TypeId} {cx cy:Bool} {a b:Bs} (hk:K (.bool (!decide (a=b))) w):Run P (ao .neq T cx cy (.string (st a)) (.string (st b))) w K:=by
 refine pU ?_
 have:decide (st a=st b)=decide (a=b):=by
  rw [decide_eq_decide]
  exact ⟨fun h=>by rw [<- wu a,h,wu],fun h=>by rw [h]⟩
 rw [this]
 exact hk
/- string([]byte{x}) -/
theorem ur (h:Inv w0 X L S w) {T T' D ty e:TypeId} {by_:Nat} {z:Value} {n:Nat} (hT:l1 P T=some (e,1,by_,z)) (he:P.underlying T'=some (.slice e)) (hb:P.underlying e=some (.int .u8)) (hD:P.underlying D=some .string)
  (hk:∀ w',Inv w0 X L S w'->K (.string (st [UInt8.ofNat n])) w') :
  Run P (aW T 1 [(0,.int .u8 (n:Int))]) w fun u w'=>Run P (sOp (.convert T' D (.const u)) ty) w' K:=by
 refine fq h hT rfl (by omega) (by omega) fun b w' hI=>?_
 have hi:(L++[Item.blk b (.cells (Value.int .u8 (n:Int)).cells e)])[L.length]?=some (.blk b (.cells (Value.int .u8 (n:Int)).cells e)):=by
  rw [List.getElem?_append_right (Nat.le_refl _),Nat.sub_self]; rfl
 have hc:w'.cell? ⟨b,0,none⟩=some (.int .u8 (n:Int)):=by rw [hI.cellL hi]; rfl
 have hl:=run_loadCells_list (P:=P) (w:=w') ⟨b,0,none⟩ [.int .u8 (n:Int)] (fun j v hj=>by
  match j with
  | 0=>simp only [List.getElem?_cons_zero,Option.some.injEq] at hj; subst hj; rw [gT]; exact hc
  | j+1=>simp at hj)
 simp only [List.length_cons,List.length_nil] at hl
 refine Run.of (w':=w') ?_ (hk _ (hI.sub (List.sublist_append_left _ _)))
 simp [sOp,execOp,ev0,evE,convert,run_underlying he,run_underlying hb,run_underlying hD,Conv.bytesToString,hl,st]
 rfl
end
end Go.Proofs.YtemmhhdnlbmicaaGreat
