/- Matching with a map: impl.instance. -/
import Derived.Test.YtfcbhfjomgopbaaGreatZT16
import Derived.Test.YtfcbhfjomgopbaaGreatZT17
import Derived.Test.YtfcbhfjomgopbaaGreatZT10
import Derived.Test.YtfcbhfjomgopbaaGreatZT12
import Derived.Test.YtfcbhfjomgopbaaGreatZT11
import Derived.Test.YtfcbhfjomgopbaaGreatZT13
namespace Go.Proofs.YtfcbhfjomgopbaaGreat
open Go Go.RowKit

/- the map of impl.instance -/
def KnownM (S:al) (es:Array MapEntry) (st:bf):Prop:=
 (∀ e∈es.toList,∃ (n:Nat) (t:T) (cs:List Value),e.key=.int .i64 n/\e.val=.agg cs.toArray/\RdT S cs t/\st[n]?=some (some t))/\(∀ (n:Nat) (t:T),st[n]?=some (some t)->∃ e∈es.toList,e.key=.int .i64 n)/\(es.toList.map (·.key)).Nodup
theorem KnownM.push {S:al} {es:Array MapEntry} {st:bf} (h:KnownM S es st) {n:Nat} (hn:n<st.length) (hno:∀ t,st[n]?≠some (some t)) {cs:List Value} {u:T} (hu:RdT S cs u) (ck:Nat) :
  KnownM S (es.push { key:=.int .i64 n,val:=.agg cs.toArray,born:=ck }) (st.set n (some u)):=by
 refine ⟨fun e he=>?_,fun m t ht=>?_,?_⟩
 ·rw [Array.toList_push] at he
  rcases List.mem_append.1 he with he|he
  ·obtain ⟨m,t,cs',hk,hv,hR,hs⟩:=h.1 e he
   refine ⟨m,t,cs',hk,hv,hR,?_⟩
   have:n≠m:=fun e=>hno t (by rw [e]; exact hs)
   rw [List.getElem?_set_ne this]
   exact hs
  ·simp at he
   subst he
   exact ⟨n,u,cs,rfl,rfl,hu,by rw [List.getElem?_set_self hn]⟩
 ·rw [Array.toList_push]
  by_cases e:n=m
  ·exact ⟨_,List.mem_append_right _ (List.mem_singleton.2 rfl),by rw [e]⟩
  ·rw [List.getElem?_set_ne e] at ht
   obtain ⟨x,hx,hk⟩:=h.2.1 m t ht
   exact ⟨x,List.mem_append_left _ hx,hk⟩
 ·rw [Array.toList_push,List.map_append,List.nodup_append]
  refine ⟨h.2.2,by simp,fun a ha b hb e=>?_⟩
  simp only [List.map_cons,List.map_nil,List.mem_singleton] at hb
  subst hb
  obtain ⟨x,hx,rfl⟩:=List.mem_map.1 ha
  obtain ⟨m,t,cs',hk,_,_,hs⟩:=h.1 x hx
  rw [hk] at e
  simp only [Value.int.injEq,true_and] at e
  have:m=n:=by omega
  subst this
  exact hno t hs
section
attribute [local irreducible] Run CondV ag aO
end

end Go.Proofs.YtfcbhfjomgopbaaGreat

/- SubsumedClause: both sides. -/
namespace Go.Proofs.YtfcbhfjomgopbaaGreat
open Go Go.RowKit

def st0:bf:=List.replicate 26 none
theorem KnownM.empty (S:al):KnownM S #[] st0:=by
 refine ⟨by simp,fun n t ht=>?_,by simp⟩
 rw [st0,List.getElem?_replicate] at ht
 split at ht <;> cases ht
section
variable {P:Program} {w w0:World} {X:List Nat} {L:List Item} {S:al} {K:Value->World->Prop}
attribute [local irreducible] Run CondV ag aO
theorem Ct (h:Inv w0 X L S w) {T ty e:TypeId} {k by_ n:Nat} {z:Value} (hT:fB P T=some (e,k,by_,z)) (hn:n<=4294967296) (hby:by_<=65536) (hn0:n * k≠0)
  (hk:∀ b w',Inv w0 X (L++[.blk b (.cells ((Array.range (n * k)).map (z.cells[· % z.cells.size]!)) e)]) S w'->K (.slice (some ⟨b,0,none⟩) n n) w') :
  Run P (sOp (.makeSlice T (.const (.int .i64 n)) (.const (.int .i64 n))) ty) w K:=by
 obtain ⟨hu,i,hi,hz,hs,hb,hzs⟩:=gO hT
 have hw:IntKind.i64.wrap (n:Int)=n:=IntWalk.i64_in _ (by omega)
 have hle:by_ * n<=2 ^ 48:=Nat.le_trans (Nat.mul_le_mul hby hn) (by decide)
 have h1:¬ ((n:Int)<0):=by omega
 have h2:¬ (281474976710656<(i.bytes:Int) * (n:Int)):=by
  rw [hb]
  have:((by_ * n:Nat):Int)<=((2 ^ 48:Nat):Int):=by exact_mod_cast hle
  have e:(((2 ^ 48:Nat)):Int)=281474976710656:=by decide
  rw [e,Int.natCast_mul] at this
  omega
 refine Run.of (v:=.slice (some ⟨w.heap.size,0,none⟩) n n) (w':={ w with heap:=w.heap.push (.cells ((Array.range (n * k)).map (z.cells[· % z.cells.size]!)) e) }) ?_ (hk _ _ (h.alloc _))
 simp [sOp,execOp,ev0,evE,Instr.makeSlice,run_underlying hu,asInt,asIntOf,typeInfo,hi,hw,h1,h2,sizeOf,hs,newRow,newObj,Sem.run,hn0,zeroValue,hz]
end
section
attribute [local irreducible] Run CondV ag aO
end

end Go.Proofs.YtfcbhfjomgopbaaGreat

/- slices.Clone and slices.DeleteFunc of terms. -/
namespace Go.Proofs.YtfcbhfjomgopbaaGreat
open Go Go.RowKit

section
variable {P:Program} {w w0:World} {X:List Nat} {L:List Item} {S:al} {K:Value->World->Prop}
attribute [local irreducible] Run CondV ag aO
end
section
attribute [local irreducible] Run CondV ag aO
end

end Go.Proofs.YtfcbhfjomgopbaaGreat

/- impl.RenumberClause. -/
namespace Go.Proofs.YtfcbhfjomgopbaaGreat
open Go Go.RowKit
section
variable {P:Program} {w:World} {K:Value->World->Prop}
attribute [local irreducible] Run
end
section
attribute [local irreducible] Run CondV ag aO
end

end Go.Proofs.YtfcbhfjomgopbaaGreat

/- impl.RenumberClause: clauses. -/
namespace Go.Proofs.YtfcbhfjomgopbaaGreat
open Go Go.RowKit
mutual
theorem Im (vs:List Int):∀ t:T,wT (fH vs t)=wT t
 | .mk k n s ks=>by rw [fH,wT,wT,tR,IL vs ks]
theorem IL (vs:List Int):∀ ts:List T,wL (jv vs ts)=wL ts
 | []=>rfl
 | t::ts=>by rw [jv,wL,wL,Im vs t,IL vs ts]
end
section
attribute [local irreducible] Run CondV ag aO
theorem TrC.zero:TrC [] [.int .i64 0,.int .i64 0,.string ⟨#[]⟩,.slice none 0 0,.slice none 0 0] ⟨⟨0,0,⟨#[]⟩,[]⟩,[]⟩:=
 ⟨[.int .i64 0,.int .i64 0,.string ⟨#[]⟩,.slice none 0 0],.slice none 0 0,[],[],rfl,rfl,TrT.iff.2 ⟨_,rfl,by simp [inI,T.kind],by simp [inI,T.n],by rw [T.name]; decide +kernel,TrSl.nil (by simp [maxLen])⟩,TrSl.nil (by simp [maxLen])⟩
end

end Go.Proofs.YtfcbhfjomgopbaaGreat

/- spec.l15Resolvent. -/
namespace Go.Proofs.YtfcbhfjomgopbaaGreat
open Go Go.RowKit
section
variable {P:Program} {w:World} {K:Value->World->Prop}
attribute [local irreducible] Run
end
section
attribute [local irreducible] Run CondV ag aO
end

end Go.Proofs.YtfcbhfjomgopbaaGreat

/- What calls what, and what can be reached: both sides. -/
namespace Go.Proofs.YtfcbhfjomgopbaaGreat
open Go Go.RowKit
attribute [local irreducible] Run CondV ag aO

end Go.Proofs.YtfcbhfjomgopbaaGreat

/- The graph of calls: the plain form. -/
namespace Go.Proofs.YtfcbhfjomgopbaaGreat
open Go Go.RowKit
attribute [local irreducible] Run CondV ag aO

/- what may still come in -/
/- rows of predicates: their length, an element -/
section
variable {P:Program} {w w0:World} {X:List Nat} {L:List Item} {S:al} {K:Value->World->Prop}
end

end Go.Proofs.YtfcbhfjomgopbaaGreat

/- What the clauses for a name call: both sides. -/
namespace Go.Proofs.YtfcbhfjomgopbaaGreat
open Go Go.RowKit
attribute [local irreducible] Run CondV ag aO

/- the program's side goes over the clauses' numbers -/
end Go.Proofs.YtfcbhfjomgopbaaGreat

/- What some predicates can lead to: both sides. -/
namespace Go.Proofs.YtfcbhfjomgopbaaGreat
open Go Go.RowKit
attribute [local irreducible] Run CondV ag aO

end Go.Proofs.YtfcbhfjomgopbaaGreat

/- Which predicates can lead to themselves: both sides. -/
namespace Go.Proofs.YtfcbhfjomgopbaaGreat
open Go Go.RowKit
attribute [local irreducible] Run CondV ag aO

end Go.Proofs.YtfcbhfjomgopbaaGreat

/- PredsOf, CallsOf, ReachOf: both sides. -/
namespace Go.Proofs.YtfcbhfjomgopbaaGreat
open Go Go.RowKit
attribute [local irreducible] Run CondV ag aO

end Go.Proofs.YtfcbhfjomgopbaaGreat

/- A predicate that comes in: its size, its copy, its reading. -/
namespace Go.Proofs.YtfcbhfjomgopbaaGreat
open Go Go.ChangeShapes Go.WideShapes Go.ChangeAt Go.RowKit
section
attribute [local irreducible] Run CondV ag aO
end
theorem two {cs:List Value} (h:cs.length=2):∃ a b,cs=[a,b]:=by
 match cs,h with
 | [a,b],_=>exact ⟨a,b,rfl⟩
end Go.Proofs.YtfcbhfjomgopbaaGreat

/- spec.l14Pred, DrawPredsOf, DrawCallsOf, DrawRecursivePred. -/
namespace Go.Proofs.YtfcbhfjomgopbaaGreat
open Go Go.RowKit
section
variable {br:Nat} {sl:Value} {ys:List Nat}
attribute [local irreducible] Run CondV ag aO
theorem Pd.one (x:Pd):∀ u∈x.cells,u.oneCell'=true:=by
 intro u hu
 have hu':u∈([.string x.name,.int .i64 x.arity]:List Value):=hu
 simp at hu'
 rcases hu' with rfl|rfl <;> rfl
end
end Go.Proofs.YtfcbhfjomgopbaaGreat

/- What the laws compare with: pgPreds, pgPred, impl.ClauseSame, pgClauses; bytes that come in. -/
namespace Go.Proofs.YtfcbhfjomgopbaaGreat
open Go Go.ChangeShapes Go.WideShapes Go.ChangeAt Go.RowKit
theorem Oh:Tryz.prog.underlying CA=some (.int .u8):=by kernel_rfl
theorem LF {H:Type} {enc:TypeId × Value->H} {W:World} {sp:Nat->Bool} {held:Bool} {fuel:Nat} {cs:List Value} {x:DataW H × List MemPlace} (h:DataW.trod enc Tryz.prog W 0 sp held fuel CA cs=some x) :
  ∃ n,jd cs n:=by
 cases fuel with
 | zero=>simp [DataW.trod] at h
 | succ n=>
  unfold DataW.trod at h
  rw [Oh] at h
  split at h <;> simp_all
  rename_i k1 k2 m he
  subst he
  obtain ⟨⟨_,h⟩,_⟩:=h
  simp only [Lit.wf,Bool.and_eq_true,decide_eq_true_eq] at h
  have h1:0<=m/\m<=255:=h
  exact ⟨m.toNat,by rw [jd,Int.toNat_of_nonneg (by omega)]; exact ⟨rfl,by omega⟩⟩
theorem GJ {H:Type} {enc:TypeId × Value->H} {W:World} {sp:Nat->Bool} {held:Bool} {fuel:Nat} {v:Value} {x:DataW H × List MemPlace} (h:DataW.trod enc Tryz.prog W 0 sp held fuel FF [v]=some x) :
  ∃ ys,RdSl (IV W) 1 jd v ys:=Mq dL (by omega) h fun _ _ _ _ hy=>LF hy
section
variable {w0 w:World} {X:List Nat} {L:List Item} {S:al} {K:Value->World->Prop}
attribute [local irreducible] Run CondV ag aO
end
end Go.Proofs.YtfcbhfjomgopbaaGreat

/- Arithmetic and comparisons of numbers, on both sides. -/
namespace Go.Proofs.YtfcbhfjomgopbaaGreat
open Go Go.RowKit
def He (a b:Int):Int:=if a.tmod b≠0/\(decide (a.tmod b<0) != decide (b<0))=true then a.tmod b+b else a.tmod b
def ml (n:Int):Int × Int:=if n < -999 ∨ 999<n then (0,5) else (n,0)
def opA (s:ByteArray) (a b:Int):Int × Int:=
 if s=⟨#[43]⟩ then ml (a+b)
 else if s=⟨#[45]⟩ then ml (a - b)
 else if s=⟨#[42]⟩ then ml (a * b)
 else if b=0 then (0,4)
 else if s=⟨#[109,111,100]⟩ then (He a b,0)
 else (a.tdiv b,0)
def kA (s:ByteArray):List (Int × Int)->Int × Int
 | [a,b]=>if cq s=1 ∨ cq s=2 then (if a.2≠0 then (0,a.2) else if b.2≠0 then (0,b.2) else opA s a.1 b.1) else (0,3)
 | _=>(0,3)
mutual
def dz:T->Int × Int
 | .mk k n s ks=>if k=1 then (0,2) else if k=2 then (n,0) else kA s (fb ks)
def fb:List T->List (Int × Int)
 | []=>[]
 | t::ts=>dz t::fb ts
end
theorem yn:∀ ts:List T,fb ts=ts.map dz
 | []=>rfl
 | t::ts=>by rw [fb,yn ts,List.map_cons]
/- numbers within their limits -/
mutual
def okN:T->Prop
 | .mk k n _ ks=>(k=2->-999<=n/\n<=999)/\CM ks
def CM:List T->Prop
 | []=>True
 | t::ts=>okN t/\CM ts
end
theorem hH:∀ {ts:List T},CM ts->∀ t∈ts,okN t
 | t::ts,h,x,hx=>by
  rw [CM] at h
  rcases List.mem_cons.1 hx with rfl|hx
  ·exact h.1
  ·exact hH h.2 x hx
theorem okN.kids {t:T} (h:okN t):CM t.kids:=by cases t; rw [okN] at h; exact h.2
def Sm (n:Int):Prop:=-999<=n/\n<=999
theorem tE (n:Int):Sm (ml n).1:=by
 unfold ml Sm
 split
 ·simp
 ·simp only []; omega
theorem Is {a b:Int} (ha:Sm a):Sm (a.tdiv b):=by
 unfold Sm at *
 have h1:(a.tdiv b).natAbs<=a.natAbs:=by
  rw [Int.natAbs_tdiv]
  exact Nat.div_le_self _ _
 omega
theorem Iz {a b:Int} (_:Sm b) (h0:b≠0):(a.tmod b).natAbs<b.natAbs:=by
 rw [Int.natAbs_tmod]
 exact Nat.mod_lt _ (by omega)
theorem MG {a b:Int} (hb:Sm b) (h0:b≠0):Sm (He a b):=by
 have h:=Iz (a:=a) hb h0
 unfold He
 split
 ·rename_i h1
  obtain ⟨h1,h2⟩:=h1
  unfold Sm at *
  by_cases h3:a.tmod b<0
  ·by_cases h4:b<0
   ·simp [h3,h4] at h2
   ·omega
  ·by_cases h4:b<0
   ·omega
   ·simp [h3,h4] at h2
 ·unfold Sm at *; omega
theorem NO {s:ByteArray} {a b:Int} (ha:Sm a) (hb:Sm b):Sm (opA s a b).1:=by
 unfold opA
 split
 ·exact tE _
 split
 ·exact tE _
 split
 ·exact tE _
 split
 ·simp [Sm]
 split
 ·rename_i h0 _; exact MG hb h0
 ·exact Is ha
theorem rl:∀ t:T,okN t->Sm (dz t).1:=by
 refine T.ind fun k n s ks ih h=>?_
 rw [okN] at h
 rw [dz]
 split
 ·simp [Sm]
 split
 ·rename_i hk; exact h.1 hk
 rw [yn]
 match ks,ih,h.2 with
 | [],_,_=>simp [kA,Sm]
 | [x],_,_=>simp [kA,Sm]
 | [x,y],ih,h2=>
  have hx:=ih x (by simp) (hH h2 x (by simp))
  have hy:=ih y (by simp) (hH h2 y (by simp))
  simp only [List.map_cons,List.map_nil,kA]
  split
  ·split
   ·simp [Sm]
   ·split
    ·simp [Sm]
    ·exact NO hx hy
  ·simp [Sm]
 | _::_::_::_,_,_=>simp [kA,Sm]
/- the mod of the other side -/
def o9 (s:ByteArray) (a b:Int):Bool:=
 if s=⟨#[60]⟩ then decide (a<b)
 else if s=⟨#[62]⟩ then decide (b<a)
 else if s=⟨#[61,60]⟩ then decide (a<=b)
 else if s=⟨#[62,61]⟩ then decide (b<=a)
 else decide (a=b)
def gj (b:Bool):Int:=if b=true then 0 else 1
def MH (s:ByteArray):List (Int × Int)->Int
 | [a,b]=>if a.2≠0 then a.2 else if b.2≠0 then b.2 else gj (o9 s a.1 b.1)
 | _=>0
def eU:List ByteArray:=[⟨#[60]⟩,⟨#[62]⟩,⟨#[61,60]⟩,⟨#[62,61]⟩,⟨#[61,58,61]⟩]
abbrev Nj (p:Int × Int):Value:=.tuple #[.int .i64 p.1,.int .i64 p.2]
theorem tB {l:List T} (h:l.length=2):∃ x y,l=[x,y]:=by
 match l,h with
 | [x,y],_=>exact ⟨x,y,rfl⟩
section
attribute [local irreducible] Run CondV ag aO
theorem gI (n:Int) (S:al):Pure Tryz.prog Ck [.int .i64 n] S (Nj (ml n)):=by
 intro w hI
 refine sQ ?_
 unfold oo
 refine ⟨fun t w'=>t=.bool (decide (n < -999 ∨ 999<n))/\Inv w [] [] S w',?_,?_⟩
 ·refine cg ?_
  refine ru (fun h=>⟨?_,hI⟩) (fun h=>?_)
  ·rw [decide_eq_true (.inl (of_decide_eq_true h))]
  ·refine di ?_
   refine jQ h ⟨?_,hI⟩
   have h:=of_decide_eq_false h
   rw [Value.bool.injEq,decide_eq_decide]
   omega
 intro q _ _ _ _ _ w'
 rintro ⟨rfl,hI⟩
 refine bz (fun h=>done hI ?_) (fun h=>done hI ?_)
 ·rw [ml,if_pos h]
 ·rw [ml,if_neg h]
theorem zE (a b:Int) (h0:b≠0) (hb:Sm b) (S:al):Pure Tryz.prog Jy [.int .i64 a,.int .i64 b] S (.int .i64 (He a b)):=by
 intro w hI
 have hm:=Iz (a:=a) hb h0
 unfold Sm at hb
 refine AF ?_
 unfold yx
 refine Oe h0 ?_
 refine ⟨fun t w'=>t=.int .i64 (He a b)/\Inv w [] [] S w',?_,?_⟩
 ·refine ⟨fun t w'=>t=.bool (decide (a.tmod b≠0/\(decide (a.tmod b<0) != decide (b<0))=true))/\Inv w [] [] S w',?_,?_⟩
  ·refine dB ?_
   refine gD (fun h=>?_) (fun h=>⟨?_,hI⟩)
   ·refine cg ?_
    refine cg ?_
    refine K8 BS ?_
    refine fA h ⟨?_,hI⟩
    simp at h
    rw [Value.bool.injEq]
    by_cases h1:a.tmod b<0 <;> by_cases h2:b<0 <;> simp [h,h1,h2]
   ·simp at h; simp [h]
  intro q _ _ _ _ _ _ _ _ w'
  rintro ⟨rfl,hI⟩
  refine bz (fun h=>?_) (fun h=>?_)
  ·refine bT (by omega) ?_
   exact ⟨by rw [He,if_pos h],hI⟩
  ·exact ⟨by rw [He,if_neg h],hI⟩
 intro q _ _ _ _ _ _ _ _ _ _ _ _ w'
 rintro ⟨rfl,hI⟩
 exact done hI rfl
theorem z5 (a b:Int) (h0:b≠0) (ha:Sm a) (S:al):Pure Tryz.prog Ji [.int .i64 a,.int .i64 b] S (.int .i64 (a.tdiv b)):=by
 intro w hI
 have:=Is (b:=b) ha
 unfold Sm at this
 refine Ad ?_
 unfold yC
 refine N1 h0 (by omega) ?_
 exact done hI rfl
theorem Ne {a b:Int} (ha:Sm a) (hb:Sm b):-998001<=a * b/\a * b<=998001:=by
 unfold Sm at *
 have h1:(a * b).natAbs=a.natAbs * b.natAbs:=Int.natAbs_mul a b
 have h2:a.natAbs * b.natAbs<=999 * 999:=Nat.mul_le_mul (by omega) (by omega)
 omega
theorem Ds (s:ByteArray) (a b:Int) (ha:Sm a) (hb:Sm b) (S:al):Pure Tryz.prog K1 [.string s,.int .i64 a,.int .i64 b] S (Nj (opA s a b)):=by
 intro w hI
 have ha':=ha
 have hb':=hb
 have hmul:=Ne ha hb
 unfold Sm at ha hb
 refine Cv ?_
 unfold A4
 refine bJ ?_
 refine bz (fun h=>?_) (fun h1=>?_)
 ·refine bT (by omega) ?_
  refine Run.callPure jJ jF hI (gI _ S) fun w' hI=>?_
  refine aB (v:=.int .i64 _) rfl ?_
  refine aB (v:=.int .i64 _) rfl ?_
  exact done hI (by rw [opA,if_pos h])
 refine bJ ?_
 refine bz (fun h=>?_) (fun h2=>?_)
 ·refine ic (by omega) ?_
  refine Run.callPure jJ jF hI (gI _ S) fun w' hI=>?_
  refine aB (v:=.int .i64 _) rfl ?_
  refine aB (v:=.int .i64 _) rfl ?_
  exact done hI (by rw [opA,if_neg h1,if_pos h])
 refine bJ ?_
 refine bz (fun h=>?_) (fun h3=>?_)
 ·refine yp (by omega) ?_
  refine Run.callPure jJ jF hI (gI _ S) fun w' hI=>?_
  refine aB (v:=.int .i64 _) rfl ?_
  refine aB (v:=.int .i64 _) rfl ?_
  exact done hI (by rw [opA,if_neg h1,if_neg h2,if_pos h])
 refine bP ?_
 refine bz (fun h=>?_) (fun h4=>?_)
 ·exact done hI (by rw [opA,if_neg h1,if_neg h2,if_neg h3,if_pos h])
 refine bJ ?_
 refine bz (fun h=>?_) (fun h5=>?_)
 ·refine Run.callPure Gn HU hI (zE _ _ h4 hb' S) fun w' hI=>?_
  exact done hI (by rw [opA,if_neg h1,if_neg h2,if_neg h3,if_neg h4,if_pos h])
 ·refine Run.callPure Ho Ig hI (z5 _ _ h4 ha' S) fun w' hI=>?_
  exact done hI (by rw [opA,if_neg h1,if_neg h2,if_neg h3,if_neg h4,if_neg h5])
theorem cH (b:Bool) (S:al):Pure Tryz.prog Hx [.bool b] S (.int .i64 (gj b)):=by
 intro w hI
 refine x0 ?_
 unfold ut
 refine aS (fun h=>done hI ?_) (fun h=>done hI ?_) <;> rw [h] <;> rfl
theorem vH (s:ByteArray) (a b:Int) (S:al):Pure Tryz.prog EM [.string s,.int .i64 a,.int .i64 b] S (.bool (o9 s a b)):=by
 intro w hI
 refine vW ?_
 unfold p6
 refine bJ ?_
 refine bz (fun h=>cg (done hI (by rw [o9,if_pos h]))) (fun h1=>?_)
 refine bJ ?_
 refine bz (fun h=>di (done hI (by rw [o9,if_neg h1,if_pos h]))) (fun h2=>?_)
 refine bJ ?_
 refine bz (fun h=>fi (done hI (by rw [o9,if_neg h1,if_neg h2,if_pos h]))) (fun h3=>?_)
 refine bJ ?_
 refine bz (fun h=>ja (done hI (by rw [o9,if_neg h1,if_neg h2,if_neg h3,if_pos h]))) (fun h4=>?_)
 exact bP (done hI (by rw [o9,if_neg h1,if_neg h2,if_neg h3,if_neg h4]))
theorem py (s:ByteArray) (S:al):Pure Tryz.prog yQ [.string s] S (.bool (dd s eU)):=by
 intro w hI
 refine pF ?_
 unfold lg;dsimp only
 refine bJ ?_
 refine ru (fun h=>?_) (fun h1=>?_)
 ·repeat (first|refine ad ?_|refine af (by decide) ?_|refine ae ?_|refine ak ?_|refine aj ?_)
  exact done hI (by simp only [dd,eU,List.any_cons,h,Bool.true_or])
 refine bJ ?_
 refine jQ h1 ?_
 refine ru (fun h=>?_) (fun h2=>?_)
 ·repeat (first|refine ad ?_|refine af (by decide) ?_|refine ae ?_|refine ak ?_|refine aj ?_)
  exact done hI (by simp only [dd,eU,List.any_cons,h,Bool.true_or,Bool.or_true])
 refine bJ ?_
 refine jQ h2 ?_
 refine ru (fun h=>?_) (fun h3=>?_)
 ·repeat (first|refine ad ?_|refine af (by decide) ?_|refine ae ?_|refine ak ?_|refine aj ?_)
  exact done hI (by simp only [dd,eU,List.any_cons,h,Bool.true_or,Bool.or_true])
 refine bJ ?_
 refine jQ h3 ?_
 refine ru (fun h=>?_) (fun h4=>?_)
 ·repeat (first|refine ad ?_|refine af (by decide) ?_|refine ae ?_|refine ak ?_|refine aj ?_)
  exact done hI (by simp only [dd,eU,List.any_cons,h,Bool.true_or,Bool.or_true])
 refine bJ ?_
 refine jQ h4 ?_
 exact done hI (by simp only [dd,eU,List.any_cons,List.any_nil,h1,h2,h3,h4,Bool.false_or,Bool.or_false])
theorem ij:∀ (t:T) (S:al) (cs:List Value),RdT S cs t->okN t->Pure Tryz.prog EA [.agg cs.toArray] S (Nj (dz t)):=by
 refine T.ind fun k n s ks ih S cs h hn=>?_
 intro w hI
 obtain ⟨kv,rfl,_,_,_,hks⟩:=RdT.iff.1 h
 rw [okN] at hn
 simp only [T.name,T.kids,T.kind,T.n] at hks ⊢
 refine vt ?_
 unfold qy
 refine bS hI fun b1 w' hI=>?_
 refine ao hI 0 rfl bC aY rfl ?_
 refine bP ?_
 refine bz (fun h1=>done hI (by rw [dz,if_pos h1])) (fun h1=>?_)
 refine bP ?_
 refine bz (fun h2=>?_) (fun h2=>?_)
 ·refine ao (u:=.int .i64 n) hI 0 rfl bF aY rfl ?_
  exact done hI (by rw [dz,if_neg h1,if_pos h2])
 have e0:dz (.mk k n s ks)=kA s (fb ks):=by rw [dz,if_neg h1,if_neg h2]
 rw [e0]
 refine ao hI 0 rfl bB bn rfl ?_
 refine Run.callPure eq ev hI (cY s S) fun w' hI=>?_
 refine ⟨fun t w'=>t=.bool (!(decide (ks.length=2) && (decide (cq s=1) || decide (cq s=2))))/\Inv w [] [.blk b1 (.cells #[.int .i64 k,.int .i64 n,.string s,kv] ab)] S w',?_,?_⟩
 ·refine ao hI 0 rfl aK aJ rfl ?_
  refine bp hks aC ?_
  refine dB ?_
  have el:decide ((ks.length:Int)=2)=decide (ks.length=2):=by rw [decide_eq_decide]; omega
  rw [el]
  cases hl:decide (ks.length=2)
  ·repeat (first|refine ad ?_|refine af (by decide) ?_|refine ae ?_|refine ak ?_|refine aj ?_)
   exact ⟨rfl,hI⟩
  repeat (first|refine ad ?_|refine af (by decide) ?_|refine ae ?_|refine ak ?_|refine aj ?_)
  refine dB ?_
  cases h3:decide (cq s=1)
  ·repeat (first|refine ad ?_|refine af (by decide) ?_|refine ae ?_|refine ak ?_|refine aj ?_)
   refine dB ?_
   repeat (first|refine ad ?_|refine af (by decide) ?_|refine ae ?_|refine ak ?_|refine aj ?_)
   exact ⟨rfl,hI⟩
  ·repeat (first|refine ad ?_|refine af (by decide) ?_|refine ae ?_|refine ak ?_|refine aj ?_)
   exact ⟨rfl,hI⟩
 intro q _ _ _ _ _ _ _ _ _ _ _ w'
 rintro ⟨rfl,hI⟩
 refine aS (fun hc=>done hI ?_) (fun hc=>?_)
 ·match ks,hc with
  | [],_|[_],_|_::_::_::_,_=>rfl
  | [x,y],hc=>
   simp at hc
   rw [fb,fb,fb,kA,if_neg (by omega)]
 simp only [Bool.not_eq_false',Bool.and_eq_true,Bool.or_eq_true,decide_eq_true_eq] at hc
 obtain ⟨hl,hv⟩:=hc
 obtain ⟨x,y,rfl⟩:=tB hl
 have e1:kA s (fb [x,y])=if (dz x).2≠0 then (0,(dz x).2) else if (dz y).2≠0 then (0,(dz y).2) else opA s (dz x).1 (dz y).1:=by
  rw [fb,fb,fb,kA,if_pos hv]
 rw [e1]
 have nx:=hH hn.2 x (by simp)
 have ny:=hH hn.2 y (by simp)
 refine ao hI 0 rfl aK aJ rfl ?_
 refine cJ (i:=0) hI hks aC ai (by simp) (fun _ _=>RdT.length) fun cs' hcs'=>?_
 refine Run.callPure gh gq hI (ih x (by simp) S cs' hcs' nx) fun w' hI=>?_
 refine aB (v:=.int .i64 _) rfl ?_
 refine aB (v:=.int .i64 _) rfl ?_
 refine dB ?_
 refine aS (fun h5=>done hI ?_) (fun h5=>?_)
 ·simp at h5
  rw [if_pos h5]
 simp at h5
 rw [if_neg (by simp [h5])]
 refine ao hI 0 rfl aK aJ rfl ?_
 refine cJ (i:=1) hI hks aC ai (by simp) (fun _ _=>RdT.length) fun cs' hcs'=>?_
 refine Run.callPure gh gq hI (ih y (by simp) S cs' hcs' ny) fun w' hI=>?_
 refine aB (v:=.int .i64 _) rfl ?_
 refine aB (v:=.int .i64 _) rfl ?_
 refine dB ?_
 refine aS (fun h6=>done hI ?_) (fun h6=>?_)
 ·simp at h6
  rw [if_pos h6]
 simp at h6
 rw [if_neg (by simp [h6])]
 refine ao hI 0 rfl bB bn rfl ?_
 refine Run.callPure JO JD hI (Ds s _ _ (rl _ nx) (rl _ ny) S) fun w' hI=>?_
 refine aB (v:=.int .i64 _) rfl ?_
 refine aB (v:=.int .i64 _) rfl ?_
 exact done hI rfl
theorem qk {s:ByteArray} {k n:Int} {ks:List T} {S:al} {cs:List Value} (h:RdT S cs (.mk k n s ks)) (hl:ks.length=2) (hn:CM ks):Pure Tryz.prog Am [.agg cs.toArray] S (.int .i64 (MH s (fb ks))):=by
 intro w hI
 obtain ⟨kv,rfl,_,_,_,hks⟩:=RdT.iff.1 h
 simp only [T.name,T.kids,T.kind,T.n] at hks ⊢
 obtain ⟨x,y,rfl⟩:=tB hl
 have nx:=hH hn x (by simp)
 have ny:=hH hn y (by simp)
 rw [fb,fb,fb,MH]
 refine r2 ?_
 unfold nf
 refine bS hI fun b1 w' hI=>?_
 refine ao hI 0 rfl aK aJ rfl ?_
 refine cJ (i:=0) hI hks aC ai (by simp) (fun _ _=>RdT.length) fun cs' hcs'=>?_
 refine Run.callPure gh gq hI (ij x S cs' hcs' nx) fun w' hI=>?_
 refine aB (v:=.int .i64 _) rfl ?_
 refine aB (v:=.int .i64 _) rfl ?_
 refine dB ?_
 refine aS (fun h5=>done hI ?_) (fun h5=>?_)
 ·simp at h5
  rw [if_pos h5]
 simp at h5
 rw [if_neg (by simp [h5])]
 refine ao hI 0 rfl aK aJ rfl ?_
 refine cJ (i:=1) hI hks aC ai (by simp) (fun _ _=>RdT.length) fun cs' hcs'=>?_
 refine Run.callPure gh gq hI (ij y S cs' hcs' ny) fun w' hI=>?_
 refine aB (v:=.int .i64 _) rfl ?_
 refine aB (v:=.int .i64 _) rfl ?_
 refine dB ?_
 refine aS (fun h6=>done hI ?_) (fun h6=>?_)
 ·simp at h6
  rw [if_pos h6]
 simp at h6
 rw [if_neg (by simp [h6])]
 refine ao hI 0 rfl bB bn rfl ?_
 refine Run.callPure C9 CK hI (vH s _ _ S) fun w' hI=>?_
 refine Run.callPure du dv hI (cH _ S) fun w' hI=>?_
 exact done hI rfl
end
end Go.Proofs.YtfcbhfjomgopbaaGreat

/- Goals that are built in: the plain form, and the reference's solver of them. -/
namespace Go.Proofs.YtfcbhfjomgopbaaGreat
open Go Go.RowKit
def zT:T:=.mk 0 0 ⟨#[]⟩ []
def kd (g:T) (i:Nat):T:=g.kids.getD i zT
inductive BJ where
 | done (c:Int)
 | uni (a b:T)
 | not (a b:T)
def yi (n t u:T):BJ:=if n.kind=1 ∨ t.kind=1 then .done 2 else if n.kind≠2 ∨ t.kind≠3 ∨ t.kids.length=0 then .done 3
 else if n.n<1 ∨ (t.kids.length:Int)<n.n then .done 1 else .uni u (kd t (n.n.toNat - 1))
def u6 (s:ByteArray) (t:T):Bool:=if s=⟨#[118,97,114]⟩ then decide (t.kind=1) else if s=⟨#[110,111,110,118,97,114]⟩ then !decide (t.kind=1)
 else if s=⟨#[105,110,116]⟩ then decide (t.kind=2) else decide (t.kind=3) && decide (t.kids.length=0)
abbrev ou:ByteArray:=⟨#[116,114,117,101]⟩
abbrev rH:ByteArray:=⟨#[102,97,105,108]⟩
abbrev nEq:ByteArray:=⟨#[61]⟩
abbrev nNe:ByteArray:=⟨#[92,61]⟩
abbrev Bp:ByteArray:=⟨#[61,61]⟩
abbrev nIs:ByteArray:=⟨#[105,115]⟩
abbrev Ll:ByteArray:=⟨#[97,114,103]⟩
def EL (n:Int):T:=.mk 2 n emptyB []
def jM (g:T):BJ:=
 if g.name=ou then .done 0
 else if g.name=rH then .done 1
 else if g.name=nEq then .uni (kd g 0) (kd g 1)
 else if g.name=nNe then .not (kd g 0) (kd g 1)
 else if g.name=Bp then .done (gj (eqT (kd g 0) (kd g 1)))
 else if g.name=nIs then (if (dz (kd g 1)).2≠0 then .done (dz (kd g 1)).2 else .uni (kd g 0) (EL (dz (kd g 1)).1))
 else if g.name=Ll then yi (kd g 0) (kd g 1) (kd g 2)
 else if dd g.name eU=true then .done (MH g.name (fb g.kids))
 else .done (gj (u6 g.name (kd g 0)))
def BltJ (st:bf) (j:BJ) (code:Int) (st':bf):Prop:=match j with
 | .done c=>code=c/\st'=st
 | .uni a b=>∃ r,Uni st (.one a b) r st'/\code=gj r
 | .not a b=>st'=st/\∃ r st1,Uni st (.one a b) r st1/\code=gj (!r)
def Blt (st:bf) (g:T) (code:Int) (st':bf):Prop:=BltJ st (jM g) code st'
/- how many arguments such a goal has -/
theorem jk {s:ByteArray} {n:Int} (hs:dd s pr=true) (h:de s n=true):n=2:=by
 rw [de,if_pos hs] at h
 exact of_decide_eq_true h
theorem Iv {n:Int} (h:de Ll n=true):n=3:=by
 rw [de,if_neg (by decide +kernel),if_neg (by decide +kernel),if_neg (by decide +kernel),if_pos rfl] at h
 exact of_decide_eq_true h
theorem yB {s:ByteArray} {l:List ByteArray}:dd s l=false↔∀ x∈l,s≠x:=by
 rw [dd,List.any_eq_false]
 simp
theorem LN {s:ByteArray} (h:dd s eU=true):dd s pr=true:=by
 rw [dd,List.any_eq_true] at h ⊢
 obtain ⟨x,hx,hd⟩:=h
 refine ⟨x,?_,hd⟩
 simp only [eU,List.mem_cons,List.not_mem_nil,or_false] at hx
 rcases hx with rfl|rfl|rfl|rfl|rfl <;> simp [pr]
theorem KP {s:ByteArray} {n:Int} (h:de s n=true) (h1:s≠ou) (h2:s≠rH) (h3:s≠nEq) (h4:s≠nNe) (h5:s≠Bp) (h6:s≠nIs) (hc:dd s eU=false) :
  (dd s rr=true/\n=1) ∨ (s=Ll/\n=3):=by
 have hk:dd s pr=false:=by
  rw [yB] at hc ⊢
  intro x hx
  simp only [pr,List.mem_cons,List.not_mem_nil,or_false] at hx
  rcases hx with rfl|rfl|rfl|rfl|rfl|rfl|rfl|rfl|rfl <;> first|assumption|exact hc _ (by simp [eU])
 have hk2:dd s kZ=false:=by
  rw [yB]
  intro x hx
  simp only [kZ,List.mem_cons,List.not_mem_nil,or_false] at hx
  rcases hx with rfl|rfl <;> assumption
 rw [de,hk,hk2,if_neg (by decide),if_neg (by decide)] at h
 cases ht:dd s rr
 ·rw [ht,if_neg (by decide)] at h
  split at h
  ·rename_i e; exact .inr ⟨e,of_decide_eq_true h⟩
  ·cases h
 ·rw [ht,if_pos rfl] at h
  exact .inl ⟨rfl,of_decide_eq_true h⟩
theorem NQ {l:List T} (h:l.length=1):∃ x,l=[x]:=by
 match l,h with
 | [x],_=>exact ⟨x,rfl⟩
theorem Kt {l:List T} (h:l.length=3):∃ x y z,l=[x,y,z]:=by
 match l,h with
 | [x,y,z],_=>exact ⟨x,y,z,rfl⟩
def N3 (N:Nat):BJ->Prop
 | .done _=>True
 | .uni a b=>okJ N (.one a b)
 | .not a b=>okJ N (.one a b)
theorem BltJ.ex {N:Nat} {st:bf} {j:BJ} (hg:Good N st) (hj:N3 N j):∃ c st',BltJ st j c st':=by
 match j,hj with
 | .done c,_=>exact ⟨c,st,rfl,rfl⟩
 | .uni a b,hj=>
  have hj:okJ N (.one a b):=hj
  obtain ⟨r,st',hu⟩:=Cz (unb st) st hg (Nat.le_refl _) _ hj
  exact ⟨_,st',r,hu,rfl⟩
 | .not a b,hj=>
  have hj:okJ N (.one a b):=hj
  obtain ⟨r,st',hu⟩:=Cz (unb st) st hg (Nat.le_refl _) _ hj
  exact ⟨_,st,rfl,r,st',hu,rfl⟩
theorem Lv (N:Nat) (n:Int):okU N (EL n):=by
 rw [EL,okU,df]
 exact ⟨by decide,(fun h=>by cases h),trivial,by decide +kernel⟩
theorem M9 {g:T} {i:Nat} (h:i<g.kids.length):kd g i∈g.kids:=by
 rw [kd,List.getD_eq_getElem?_getD,List.getElem?_eq_getElem h]
 exact List.getElem_mem h
theorem vl {N:Nat} {g:T} {i:Nat} (ho:okU N g/\wT g<=1048576) (h:i<g.kids.length):okU N (kd g i)/\wT (kd g i)<=1048576:=ju ho _ (M9 h)
theorem Cr {N:Nat} {g:T} (hb:dx g=true) (ho:okU N g/\wT g<=1048576):N3 N (jM g):=by
 rw [dx,Bool.and_eq_true] at hb
 have hb:=hb.2
 have hlen:∀ m:Nat,((g.kids.length:Nat):Int)=m->g.kids.length=m:=fun m h=>by omega
 unfold jM
 split
 ·trivial
 split
 ·trivial
 split
 ·rename_i h; rw [h] at hb
  have:=jk (by decide +kernel) hb
  exact ⟨vl ho (by omega),vl ho (by omega)⟩
 split
 ·rename_i h; rw [h] at hb
  have:=jk (by decide +kernel) hb
  exact ⟨vl ho (by omega),vl ho (by omega)⟩
 split
 ·trivial
 split
 ·rename_i h; rw [h] at hb
  have:=jk (by decide +kernel) hb
  split
  ·trivial
  ·exact ⟨vl ho (by omega),Lv N _,by have e:emptyB.size=0:=rfl; simp only [EL,wT,wL,List.length_nil]; omega⟩
 split
 ·rename_i h; rw [h] at hb
  have:=Iv hb
  unfold yi
  split
  ·trivial
  split
  ·trivial
  split
  ·trivial
  ·rename_i h1 h2 h3
   have k1:=vl (i:=1) ho (by omega)
   exact ⟨vl ho (by omega),vl k1 (by omega)⟩
 split
 ·trivial
 ·trivial
theorem Blt.ex {N:Nat} {st:bf} {g:T} (hg:Good N st) (hb:dx g=true) (ho:okU N g/\wT g<=1048576):∃ c st',Blt st g c st':=BltJ.ex hg (Cr hb ho)
theorem Blt.good {N:Nat} {st st':bf} {g:T} {c:Int} (hg:Good N st) (hb:dx g=true) (ho:okU N g/\wT g<=1048576) (h:Blt st g c st'):Good N st':=by
 have hj:=Cr hb ho
 unfold Blt at h
 match hb:jM g,h,hj with
 | .done c,h,_=>exact h.2 ▸ hg
 | .uni a b,⟨r,hu,_⟩,hj=>exact (hu.good hg hj).1
 | .not a b,h,_=>exact h.1 ▸ hg
/- all elements of a published slice lie in one block -/
theorem RdSl.ptr {α:Type} {S:al} {k:Nat} {R:List Value->α->Prop} {v:Value} {xs:List α} (h:RdSl S k R v xs) (hi:0<xs.length) :
  ∃ b o cap c E fz,v=.slice (some ⟨b,o,none⟩) xs.length cap/\S b=some (.cells c E fz)/\∀ i (h:i<xs.length),R (bm c (o+i * k) k) xs[i]:=by
 obtain ⟨a,cap,rfl,hl,hc,h⟩:=h
 rcases h with h|⟨b,o,c,E,fz,rfl,hS,h⟩
 ·subst h; simp at hi
 ·exact ⟨b,o,cap,c,E,fz,rfl,hS,h⟩
section
attribute [local irreducible] Run CondV ag aO
theorem xV {k n:Int} {s:ByteArray} {x:T} {S:al} {cs:List Value} (h:RdT S cs (.mk k n s [x])):Pure Tryz.prog GY [.agg cs.toArray] S (.int .i64 (gj (u6 s x))):=by
 intro w hI
 obtain ⟨kv,rfl,_,_,_,hks⟩:=RdT.iff.1 h
 simp only [T.name,T.kids,T.kind,T.n] at hks ⊢
 refine xF ?_
 unfold uF
 refine bS hI fun b1 w' hI=>?_
 refine ao hI 0 rfl aK aJ rfl ?_
 refine cJ (i:=0) hI hks aC ai (by simp) (fun _ _=>RdT.length) fun ds hds=>?_
 have hds:RdT S ds x:=hds
 refine bi hI bH fun b3 w' hI=>?_
 refine aG hI 1 rfl ai (by simpa using hds.length) rfl (by simpa using hds.one) fun w' hI=>?_
 obtain ⟨kv2,rfl,_,_,_,hk2⟩:=RdT.iff.1 hds
 have hI:Inv w [] [.blk b1 (.cells #[.int .i64 k,.int .i64 n,.string s,kv] ab),.blk b3 (.cells #[.int .i64 x.kind,.int .i64 x.n,.string x.name,kv2] ab)] S w':=hI
 refine ao hI 0 rfl bB bn rfl ?_
 refine bJ ?_
 refine bz (fun h=>?_) (fun h1=>?_)
 ·refine ao hI 1 rfl bC aY rfl ?_
  refine bP ?_
  exact Run.callPure du dv hI (cH _ S) fun w' hI=>done hI (by rw [u6,if_pos h])
 refine bJ ?_
 refine bz (fun h=>?_) (fun h2=>?_)
 ·refine ao hI 1 rfl bC aY rfl ?_
  refine dB ?_
  exact Run.callPure du dv hI (cH _ S) fun w' hI=>done hI (by rw [u6,if_neg h1,if_pos h])
 refine bJ ?_
 refine bz (fun h=>?_) (fun h3=>?_)
 ·refine ao hI 1 rfl bC aY rfl ?_
  refine bP ?_
  exact Run.callPure du dv hI (cH _ S) fun w' hI=>done hI (by rw [u6,if_neg h1,if_neg h2,if_pos h])
 refine ao hI 1 rfl bC aY rfl ?_
 refine bP ?_
 have et:u6 s x=(decide (x.kind=3) && decide (x.kids.length=0)):=by rw [u6,if_neg h1,if_neg h2,if_neg h3]
 rw [et]
 cases hk:decide (x.kind=3)
 ·repeat (first|refine ad ?_|refine af (by decide) ?_|refine ae ?_|refine ak ?_|refine aj ?_)
  exact Run.callPure du dv hI (cH _ S) fun w' hI=>done hI rfl
 repeat (first|refine ad ?_|refine af (by decide) ?_|refine ae ?_|refine ak ?_|refine aj ?_)
 refine ao hI 1 rfl aK aJ rfl ?_
 refine bp hk2 aC ?_
 refine bP ?_
 repeat (first|refine ad ?_|refine af (by decide) ?_|refine ae ?_|refine ak ?_|refine aj ?_)
 refine Run.callPure du dv hI (cH _ S) fun w' hI=>done hI ?_
 have el:decide ((x.kids.length:Int)=0)=decide (x.kids.length=0):=by rw [decide_eq_decide]; omega
 rw [el,Bool.true_and]
def Mx (S:al) (j:BJ):Value->List Item->al->Prop:=fun q I' S'=>I'=[]/\S'=S/\∃ (ds:List Value) (c:Int),q=.tuple #[.agg ds.toArray,.int .i64 c]/\ds.length=4/\(∀ u∈ds,u.oneCell'=true)/\match j with
 | .done c'=>c=c'/\c≠0
 | .uni _ b=>c=0/\RdT S ds b
 | .not _ _=>False
theorem Ab {k n:Int} {s:ByteArray} {x y z:T} {S:al} {cs:List Value} (h:RdT S cs (.mk k n s [x,y,z])):Tri Tryz.prog JT [.agg cs.toArray] [] S (Mx S (yi x y z)):=by
 intro w hI
 obtain ⟨kv,rfl,_,_,_,hks⟩:=RdT.iff.1 h
 simp only [T.name,T.kids,T.kind,T.n] at hks ⊢
 refine zQ ?_
 unfold wU;dsimp only
 refine bS hI fun b1 w' hI=>?_
 refine bi hI bH fun b2 w' hI=>?_
 refine ao hI 0 rfl aK aJ rfl ?_
 refine cJ (i:=0) hI hks aC ai (by simp) (fun _ _=>RdT.length) fun xs hxs=>?_
 have hxs:RdT S xs x:=hxs
 refine bi hI bH fun b4 w' hI=>?_
 refine aG hI 2 rfl ai (by simpa using hxs.length) rfl (by simpa using hxs.one) fun w' hI=>?_
 refine ao hI 0 rfl aK aJ rfl ?_
 refine cJ (i:=1) hI hks aC ai (by simp) (fun _ _=>RdT.length) fun ys hys=>?_
 have hys:RdT S ys y:=hys
 refine bi hI bH fun b5 w' hI=>?_
 refine aG hI 3 rfl ai (by simpa using hys.length) rfl (by simpa using hys.one) fun w' hI=>?_
 obtain ⟨kx,rfl,_,_,_,hkx⟩:=RdT.iff.1 hxs
 obtain ⟨ky,rfl,_,_,_,hky⟩:=RdT.iff.1 hys
 obtain ⟨L,hL⟩:∃ L:List Item,L=[.blk b1 (.cells #[.int .i64 k,.int .i64 n,.string s,kv] ab),.blk b2 (.cells #[.int .i64 0,.int .i64 0,.string ⟨#[]⟩,.slice none 0 0] ab),.blk b4 (.cells #[.int .i64 x.kind,.int .i64 x.n,.string x.name,kx] ab),.blk b5 (.cells #[.int .i64 y.kind,.int .i64 y.n,.string y.name,ky] ab)]:=⟨_,rfl⟩
 have hI:Inv w [] L S w':=by rw [hL]; exact hI
 have i1:L[1]?=some (.blk b2 (.cells #[.int .i64 0,.int .i64 0,.string ⟨#[]⟩,.slice none 0 0] ab)):=by rw [hL]; rfl
 have i2:L[2]?=some (.blk b4 (.cells #[.int .i64 x.kind,.int .i64 x.n,.string x.name,kx] ab)):=by rw [hL]; rfl
 have i3:L[3]?=some (.blk b5 (.cells #[.int .i64 y.kind,.int .i64 y.n,.string y.name,ky] ab)):=by rw [hL]; rfl
 have hz:∀ u∈([.int .i64 0,.int .i64 0,.string ⟨#[]⟩,.slice none 0 0]:List Value),u.oneCell'=true:=by simp [Value.oneCell']
 have el:decide ((y.kids.length:Int)=0)=decide (y.kids.length=0):=by rw [decide_eq_decide]; omega
 refine ⟨fun q w'=>q=.bool (decide (x.kind=1 ∨ y.kind=1))/\Inv w [] L S w',?_,?_⟩
 ·refine ao hI 2 i2 bC aY rfl ?_
  refine bP ?_
  cases h1:decide (x.kind=1)
  ·repeat (first|refine ad ?_|refine af (by decide) ?_|refine ae ?_|refine ak ?_|refine aj ?_)
   refine ao hI 3 i3 bC aY rfl ?_
   refine bP ?_
   repeat (first|refine ad ?_|refine af (by decide) ?_|refine ae ?_|refine ak ?_|refine aj ?_)
   refine ⟨?_,hI⟩
   rw [Value.bool.injEq,decide_eq_decide]
   have:=of_decide_eq_false h1
   exact ⟨.inr,fun h=>h.resolve_left this⟩
  ·repeat (first|refine ad ?_|refine af (by decide) ?_|refine ae ?_|refine ak ?_|refine aj ?_)
   exact ⟨by rw [decide_eq_true (.inl (of_decide_eq_true h1))],hI⟩
 intro q _ _ _ _ _ _ _ w'
 rintro ⟨rfl,hI⟩
 refine bz (fun h1=>?_) (fun h1=>?_)
 ·refine iB ?_
  refine aG hI 1 i1 ai rfl rfl hz fun w' hI=>?_
  rw [hL] at hI
  refine bE hI 1 ai rfl rfl ?_
  refine ⟨_,_,_,rfl,hI.nil,Ext.refl _ _ _,rfl,rfl,_,2,rfl,rfl,hz,?_⟩
  rw [yi,if_pos h1]
  exact ⟨rfl,by decide⟩
 refine ⟨fun q w'=>q=.bool (decide (x.kind≠2 ∨ y.kind≠3 ∨ y.kids.length=0))/\Inv w [] L S w',?_,?_⟩
 ·refine ao hI 2 i2 bC aY rfl ?_
  refine dB ?_
  cases h2:decide (x.kind=2)
  ·repeat (first|refine ad ?_|refine af (by decide) ?_|refine ae ?_|refine ak ?_|refine aj ?_)
   exact ⟨by rw [decide_eq_true (.inl (of_decide_eq_false h2))],hI⟩
  have h2:=of_decide_eq_true h2
  repeat (first|refine ad ?_|refine af (by decide) ?_|refine ae ?_|refine ak ?_|refine aj ?_)
  refine ao hI 3 i3 bC aY rfl ?_
  refine dB ?_
  cases h3:decide (y.kind=3)
  ·repeat (first|refine ad ?_|refine af (by decide) ?_|refine ae ?_|refine ak ?_|refine aj ?_)
   exact ⟨by rw [decide_eq_true (.inr (.inl (of_decide_eq_false h3)))],hI⟩
  have h3:=of_decide_eq_true h3
  repeat (first|refine ad ?_|refine af (by decide) ?_|refine ae ?_|refine ak ?_|refine aj ?_)
  refine ao hI 3 i3 aK aJ rfl ?_
  refine bp hky aC ?_
  refine bP ?_
  rw [el]
  repeat (first|refine ad ?_|refine af (by decide) ?_|refine ae ?_|refine ak ?_|refine aj ?_)
  refine ⟨?_,hI⟩
  rw [Value.bool.injEq,decide_eq_decide]
  simp [h2,h3]
 intro q _ _ _ _ _ _ _ _ _ _ _ _ _ w'
 rintro ⟨rfl,hI⟩
 refine bz (fun h2=>?_) (fun h2=>?_)
 ·refine iB ?_
  refine aG hI 1 i1 ai rfl rfl hz fun w' hI=>?_
  rw [hL] at hI
  refine bE hI 1 ai rfl rfl ?_
  refine ⟨_,_,_,rfl,hI.nil,Ext.refl _ _ _,rfl,rfl,_,3,rfl,rfl,hz,?_⟩
  rw [yi,if_neg h1,if_pos h2]
  exact ⟨rfl,by decide⟩
 refine ⟨fun q w'=>q=.bool (decide (x.n<1 ∨ (y.kids.length:Int)<x.n))/\Inv w [] L S w',?_,?_⟩
 ·refine ao hI 2 i2 bF aY rfl ?_
  refine cg ?_
  cases h3:decide (x.n<1)
  ·repeat (first|refine ad ?_|refine af (by decide) ?_|refine ae ?_|refine ak ?_|refine aj ?_)
   refine ao hI 2 i2 bF aY rfl ?_
   refine ao hI 3 i3 aK aJ rfl ?_
   refine bp hky aC ?_
   refine di ?_
   repeat (first|refine ad ?_|refine af (by decide) ?_|refine ae ?_|refine ak ?_|refine aj ?_)
   refine ⟨?_,hI⟩
   have:=of_decide_eq_false h3
   rw [Value.bool.injEq,decide_eq_decide]
   exact ⟨.inr,fun h=>h.resolve_left this⟩
  ·repeat (first|refine ad ?_|refine af (by decide) ?_|refine ae ?_|refine ak ?_|refine aj ?_)
   exact ⟨by rw [decide_eq_true (.inl (of_decide_eq_true h3))],hI⟩
 intro q _ _ _ _ _ _ _ _ _ _ w'
 rintro ⟨rfl,hI⟩
 refine bz (fun h3=>?_) (fun h3=>?_)
 ·refine iB ?_
  refine aG hI 1 i1 ai rfl rfl hz fun w' hI=>?_
  rw [hL] at hI
  refine bE hI 1 ai rfl rfl ?_
  refine ⟨_,_,_,rfl,hI.nil,Ext.refl _ _ _,rfl,rfl,_,1,rfl,rfl,hz,?_⟩
  rw [yi,if_neg h1,if_neg h2,if_pos h3]
  exact ⟨rfl,by decide⟩
 obtain ⟨m,hm⟩:∃ m:Nat,x.n=(m:Int)+1:=⟨(x.n - 1).toNat,by omega⟩
 have hml:m<y.kids.length:=by omega
 refine ao hI 3 i3 aK aJ rfl ?_
 refine ao (u:=.int .i64 x.n) hI 2 i2 bF aY rfl ?_
 rw [hm]
 refine ic (by have:=hky.le; simp only [maxLen] at this; omega) ?_
 rw [Int.add_sub_cancel]
 refine cJ (i:=m) hI hky aC ai hml (fun _ _=>RdT.length) fun es hes=>?_
 refine aG hI 1 i1 ai (by simpa using hes.length) rfl (by simpa using hes.one) fun w' hI=>?_
 rw [hL] at hI
 refine bE hI 1 ai rfl (by simpa using hes.length) ?_
 refine ⟨_,_,_,rfl,hI.nil,Ext.refl _ _ _,rfl,rfl,es,0,rfl,hes.length,hes.one,?_⟩
 rw [yi,if_neg h1,if_neg h2,if_neg h3]
 refine ⟨rfl,?_⟩
 have e:kd y (x.n.toNat - 1)=y.kids[m]:=by
  have e1:x.n.toNat - 1=m:=by omega
  rw [e1,kd,List.getD_eq_getElem?_getD,List.getElem?_eq_getElem hml]
  rfl
 rw [e]
 exact hes
end
end Go.Proofs.YtfcbhfjomgopbaaGreat

/- The reference's solver of goals that are built in. -/
namespace Go.Proofs.YtfcbhfjomgopbaaGreat
open Go Go.RowKit
section
attribute [local irreducible] Run CondV ag aO
def IG (kb:Nat) (S:al) (code:Int) (st':bf):Value->List Item->al->Prop:=fun q I' S'=>S'=S/\q=.int .i64 code/\∃ kc',I'=[.blk kb (.cells kc' ab)]/\KnU S kc' st'
def neSt (w0:World) (X:List Nat) (A:List Item) (S:al) (N:Nat) (st:bf) (r:Bool) (iz tV lx:Value) (w':World):Nat->Prop
 | 0=>Inv w0 X A S w'
 | 1=>Inv w0 X (A++[.row iz ab 4 0 []]) S w'
 | 2=>∃ g cap cur,tV=kvU g N cap/\KnU S cur st/\Inv w0 X (A++[.blk g (.cells cur ab)]) S w'
 | _=>lx=.bool r/\∃ R,Inv w0 X (A++R) S w'
theorem neSt.inv {w0 w':World} {X:List Nat} {A:List Item} {S:al} {N:Nat} {st:bf} {r:Bool} {iz tV lx:Value}:∀ {n:Nat},neSt w0 X A S N st r iz tV lx w' n->∃ R,Inv w0 X (A++R) S w'
 | 0,h=>⟨[],by rw [List.append_nil]; exact h⟩
 | 1,h=>⟨_,h⟩
 | 2,⟨_,_,_,_,_,h⟩=>⟨_,h⟩
 | _+3,h=>h.2
set_option maxHeartbeats 1000000 in
theorem wm {N kp:Nat} (hN:N<=1000000) (hN0:0<N) (hkp:N<=kp) (hkp2:kp<=maxLen) {st st':bf} {g:T} {code:Int} (hg:Good N st) (ho:okU N g/\wT g<=1048576) (hn:okN g) (hb:dx g=true) (hB:Blt st g code st')
  {S:al} {cs:List Value} {kb:Nat} {kc:Array Value} (h:RdT S cs g) (hk:KnU S kc st):Tri Tryz.prog Ga [.agg cs.toArray,kvU kb N kp] [.blk kb (.cells kc ab)] S (IG kb S code st'):=by
 intro w hI
 have hgl:=h
 obtain ⟨k,n,s,ks⟩:=g
 obtain ⟨kv,rfl,_,_,_,hks⟩:=RdT.iff.1 h
 have hbj:=Cr hb ho
 rw [dx,Bool.and_eq_true] at hb
 have hbs:=hb.2
 rw [okN] at hn
 simp only [T.name,T.kids,T.kind,T.n] at hks hbs hgl ⊢
 obtain ⟨X,hX⟩:∃ X,X=bW [Item.blk kb (.cells kc ab)]:=⟨_,rfl⟩
 rw [<- hX] at hI ⊢
 unfold Blt at hB
 clear h
 refine vF ?_
 unfold qz
 refine bS hI fun b2 w' hI=>?_
 have hI:Inv w X [.blk b2 (.cells #[.int .i64 k,.int .i64 n,.string s,kv] ab),.blk kb (.cells kc ab)] S w':=hI.perm (List.Perm.swap ..)
 have fin:∀ {w':World} {L:List Item} {j:BJ} (c:Int),j=.done c->BltJ st j code st'->Inv w X L S w'->List.Sublist [.blk kb (.cells kc ab)] L->
   ∃ v' I' S',Ending.returned (.int .i64 c)=.returned v'/\Inv w X I' S' w'/\Ext w.heap.size X S S'/\IG kb S code st' v' I' S':=by
  intro w' L j c hj hB hI hs
  subst hj
  obtain ⟨rfl,rfl⟩:=hB
  exact ⟨_,_,S,rfl,hI.sub hs,Ext.refl _ _ _,rfl,rfl,kc,rfl,hk⟩
 refine ao hI 0 rfl bB bn rfl ?_
 refine bJ ?_
 refine bz (fun h=>fin 0 (by rw [jM,if_pos (show (T.mk k n s ks).name=ou from h)]) hB hI ((List.Sublist.refl _).cons _)) (fun h0=>?_)
 refine bJ ?_
 refine bz (fun h=>fin 1 (by rw [jM,if_neg (show ¬ (T.mk k n s ks).name=ou from h0),if_pos (show (T.mk k n s ks).name=rH from h)]) hB hI ((List.Sublist.refl _).cons _)) (fun h1=>?_)
 refine bJ ?_
 refine bz (fun h=>?_) (fun h2=>?_)
 ·obtain ⟨x,y,rfl⟩:=tB (l:=ks) (by have:=jk (by rw [h]; decide +kernel) hbs; omega)
  have hj:jM (.mk k n s [x,y])=.uni x y:=by
   rw [jM,if_neg (show ¬ (T.mk k n s [x,y]).name=ou from h0),if_neg (show ¬ (T.mk k n s [x,y]).name=rH from h1),if_pos (show (T.mk k n s [x,y]).name=nEq from h)]
   rfl
  rw [hj] at hB hbj
  obtain ⟨b,o,cap,c,E,fz,rfl,hSb,hR⟩:=hks.ptr (by simp)
  obtain ⟨r,hu,rfl⟩:=hB
  have hjj:okJ N (.one x y):=hbj
  refine ⟨fun D x4 mz oA ki qu uQ sH nU ku oZ xE tz w_=>(D 0=true->tz=.pointer (some ⟨b2,3,none⟩))/\(D 1=true->xE=.slice (some ⟨b,o,none⟩) [x,y].length cap)/\(D 2=true->oZ=.pointer (some ⟨b,o+0 * 4,none⟩))/\(D 3=true->ku=.agg (bm c (o+0 * 4) 4).toArray)/\(D 4=true->nU=.pointer (some ⟨b2,3,none⟩))/\(D 5=true->sH=.slice (some ⟨b,o,none⟩) [x,y].length cap)/\(D 6=true->uQ=.pointer (some ⟨b,o+1 * 4,none⟩))/\(D 7=true->qu=.agg (bm c (o+1 * 4) 4).toArray)/\(D 8=true->ki=kvU kb N kp)/\(D 9=true->oA=.bool r)/\(D 10=true->mz=.int .i64 (gj r))/\(D 11=true->x4=.int .i64 (gj r))/\∃ kcx,(D 9=false->kcx=kc)/\(D 9=true->KnU S kcx st')/\Inv w X [.blk b2 (.cells #[.int .i64 k,.int .i64 n,.string s,.slice (some ⟨b,o,none⟩) [x,y].length cap] ab),.blk kb (.cells kcx ab)] S w_,⟨ac,ac,ac,ac,ac,ac,ac,ac,ac,ac,ac,ac,⟨kc,fun _=>rfl,ac,hI.draw⟩⟩,⟨?_,?_,?_,?_,?_,?_,?_,?_,?_,?_,?_,?_,trivial⟩,?_⟩
  all_goals (intro D bX; intros; rename_i x4 mz oA ki qu uQ sH nU ku oZ xE tz w_ hA_; obtain ⟨ax,ay,az,aA,aF,aH,aE,aM,aN,aR,aq,ar,⟨kcx,k0,k1,hI⟩⟩:=hA_)
  ·refine aI aK ?_
   exact ⟨fun _=>rfl,ay,az,aA,aF,aH,aE,aM,aN,aR,aq,ar,⟨kcx,k0,k1,hI⟩⟩
  ·obtain rfl:=ax ‹_›
   refine aX hI 0 aJ rfl rfl ?_
   exact ⟨ax,fun _=>rfl,az,aA,aF,aH,aE,aM,aN,aR,aq,ar,⟨kcx,k0,k1,hI⟩⟩
  ·obtain rfl:=ay ‹_›
   refine be (i:=0) aC (by simp) ?_
   exact ⟨ax,ay,fun _=>rfl,aA,aF,aH,aE,aM,aN,aR,aq,ar,⟨kcx,k0,k1,hI⟩⟩
  ·obtain rfl:=az ‹_›
   refine cL ai (RdT.length (hR 0 (by simp))) (fun j v hj=>by rw [hI.cellS hSb]; exact bh rfl j v hj) ?_
   exact ⟨ax,ay,az,fun _=>rfl,aF,aH,aE,aM,aN,aR,aq,ar,⟨kcx,k0,k1,hI⟩⟩
  ·refine aI aK ?_
   exact ⟨ax,ay,az,aA,fun _=>rfl,aH,aE,aM,aN,aR,aq,ar,⟨kcx,k0,k1,hI⟩⟩
  ·obtain rfl:=aF ‹_›
   refine aX hI 0 aJ rfl rfl ?_
   exact ⟨ax,ay,az,aA,aF,fun _=>rfl,aE,aM,aN,aR,aq,ar,⟨kcx,k0,k1,hI⟩⟩
  ·obtain rfl:=aH ‹_›
   refine be (i:=1) aC (by simp) ?_
   exact ⟨ax,ay,az,aA,aF,aH,fun _=>rfl,aM,aN,aR,aq,ar,⟨kcx,k0,k1,hI⟩⟩
  ·obtain rfl:=aE ‹_›
   refine cL ai (RdT.length (hR 1 (by simp))) (fun j v hj=>by rw [hI.cellS hSb]; exact bh rfl j v hj) ?_
   exact ⟨ax,ay,az,aA,aF,aH,aE,fun _=>rfl,aN,aR,aq,ar,⟨kcx,k0,k1,hI⟩⟩
  ·exact ⟨ax,ay,az,aA,aF,aH,aE,aM,fun _=>rfl,aR,aq,ar,⟨kcx,k0,k1,hI⟩⟩
  ·obtain rfl:=aA ‹_›
   obtain rfl:=aM ‹_›
   obtain rfl:=aN ‹_›
   have e0:=k0 bX
   rw [e0] at hI
   have hI:Inv w X ([.blk b2 (.cells #[.int .i64 k,.int .i64 n,.string s,.slice (some ⟨b,o,none⟩) [x,y].length cap] ab)]++[.blk kb (.cells kc ab)]) S w_:=hI
   refine Run.callE (A:=[_]) eQ eO hI (fP (kp:=kp) hN hg hjj hu S _ _ kb kc (hR 0 (by simp)) (hR 1 (by simp)) hk) fun v' I' S' w_=>?_
   rintro ⟨eS,rfl,kcx,rfl,hkx⟩ _ hI
   rw [eS] at hI
   have hI:Inv w X [.blk b2 (.cells #[.int .i64 k,.int .i64 n,.string s,.slice (some ⟨b,o,none⟩) [x,y].length cap] ab),.blk kb (.cells kcx ab)] S w_:=hI
   have k0:=fun (h:ah D 9 9=false)=>(Bool.noConfusion h:kcx=kc)
   have k1:=fun (_:ah D 9 9=true)=>hkx
   exact ⟨ax,ay,az,aA,aF,aH,aE,aM,aN,fun _=>rfl,aq,ar,⟨kcx,k0,k1,hI⟩⟩
  ·obtain rfl:=aR ‹_›
   refine Run.callPure du dv hI (cH r S) fun w_ hI=>?_
   exact ⟨ax,ay,az,aA,aF,aH,aE,aM,aN,aR,fun _=>rfl,ar,⟨kcx,k0,k1,hI⟩⟩
  ·obtain rfl:=aq ‹_›
   exact ⟨ax,ay,az,aA,aF,aH,aE,aM,aN,aR,aq,fun _=>rfl,⟨kcx,k0,k1,hI⟩⟩
  obtain rfl:=ar ‹_›
  obtain rfl:=aq ‹_›
  obtain rfl:=aR ‹_›
  obtain rfl:=aN ‹_›
  obtain rfl:=aM ‹_›
  obtain rfl:=aE ‹_›
  obtain rfl:=aH ‹_›
  obtain rfl:=aF ‹_›
  obtain rfl:=aA ‹_›
  obtain rfl:=az ‹_›
  obtain rfl:=ay ‹_›
  obtain rfl:=ax ‹_›
  have ES:D 9=true:=by assumption
  clear ax ay az aA aF aH aE aM aN aR aq ar
  have hkx:=k1 ES
  exact ⟨_,_,S,rfl,hI.sub (((List.Sublist.refl _).cons _)),Ext.refl _ _ _,rfl,rfl,kcx,rfl,hkx⟩
 refine bJ ?_
 refine bz (fun h=>?_) (fun h3=>?_)
 ·obtain ⟨x,y,rfl⟩:=tB (l:=ks) (by have:=jk (by rw [h]; decide +kernel) hbs; omega)
  have hj:jM (.mk k n s [x,y])=.not x y:=by
   rw [jM,if_neg (show ¬ (T.mk k n s [x,y]).name=ou from h0),if_neg (show ¬ (T.mk k n s [x,y]).name=rH from h1),if_neg (show ¬ (T.mk k n s [x,y]).name=nEq from h2),if_pos (show (T.mk k n s [x,y]).name=nNe from h)]
   rfl
  rw [hj] at hB hbj
  obtain ⟨b,o,cap,c,E,fz,rfl,hSb,hR⟩:=hks.ptr (by simp)
  obtain ⟨rfl,r,st1,hu,rfl⟩:=hB
  have hjj:okJ N (.one x y):=hbj
  have hI0:=hI
  refine ⟨fun D x4 lM ni lx tV jf iz ow jI kP ul lI rN jP jc w_=>(D 0=true->jc=.pointer (some ⟨b2,3,none⟩))/\(D 1=true->jP=.slice (some ⟨b,o,none⟩) [x,y].length cap)/\(D 2=true->rN=.pointer (some ⟨b,o+0 * 4,none⟩))/\(D 3=true->lI=.agg (bm c (o+0 * 4) 4).toArray)/\(D 4=true->ul=.pointer (some ⟨b2,3,none⟩))/\(D 5=true->kP=.slice (some ⟨b,o,none⟩) [x,y].length cap)/\(D 6=true->jI=.pointer (some ⟨b,o+1 * 4,none⟩))/\(D 7=true->ow=.agg (bm c (o+1 * 4) 4).toArray)/\(D 8=true->True)/\(D 9=true->jf=kvU kb N kp)/\(D 10=true->True)/\(D 11=true->True)/\(D 12=true->ni=.bool (!r))/\(D 13=true->lM=.int .i64 (gj (!r)))/\(D 14=true->x4=.int .i64 (gj (!r)))/\∃ n_:Nat,n_<=3/\D 8=decide (1<=n_)/\D 10=decide (2<=n_)/\D 11=decide (3<=n_)/\(neSt w X [.blk b2 (.cells #[.int .i64 k,.int .i64 n,.string s,.slice (some ⟨b,o,none⟩) [x,y].length cap] ab),.blk kb (.cells kc ab)] S N st' r iz tV lx w_ n_),⟨ac,ac,ac,ac,ac,ac,ac,ac,ac,ac,ac,ac,ac,ac,ac,⟨0,Nat.zero_le _,rfl,rfl,rfl,hI.draw⟩⟩,⟨?_,?_,?_,?_,?_,?_,?_,?_,?_,?_,?_,?_,?_,?_,?_,trivial⟩,?_⟩
  all_goals (intro D bX; intros; rename_i x4 lM ni lx tV jf iz ow jI kP ul lI rN jP jc w_ hA_; obtain ⟨ax,ay,az,aA,aF,aH,aE,aM,aN,aR,aq,ar,aD,aP,aQ,⟨n_,ln_,e1_,e2_,e3_,hS⟩⟩:=hA_)
  ·refine aI aK ?_
   exact ⟨fun _=>rfl,ay,az,aA,aF,aH,aE,aM,aN,aR,aq,ar,aD,aP,aQ,⟨n_,ln_,e1_,e2_,e3_,hS⟩⟩
  ·obtain rfl:=ax ‹_›
   obtain ⟨R,hI⟩:=hS.inv; refine aX hI 0 aJ rfl rfl ?_
   exact ⟨ax,fun _=>rfl,az,aA,aF,aH,aE,aM,aN,aR,aq,ar,aD,aP,aQ,⟨n_,ln_,e1_,e2_,e3_,hS⟩⟩
  ·obtain rfl:=ay ‹_›
   refine be (i:=0) aC (by simp) ?_
   exact ⟨ax,ay,fun _=>rfl,aA,aF,aH,aE,aM,aN,aR,aq,ar,aD,aP,aQ,⟨n_,ln_,e1_,e2_,e3_,hS⟩⟩
  ·obtain rfl:=az ‹_›
   obtain ⟨R,hI⟩:=hS.inv; refine cL ai (RdT.length (hR 0 (by simp))) (fun j v hj=>by rw [hI.cellS hSb]; exact bh rfl j v hj) ?_
   exact ⟨ax,ay,az,fun _=>rfl,aF,aH,aE,aM,aN,aR,aq,ar,aD,aP,aQ,⟨n_,ln_,e1_,e2_,e3_,hS⟩⟩
  ·refine aI aK ?_
   exact ⟨ax,ay,az,aA,fun _=>rfl,aH,aE,aM,aN,aR,aq,ar,aD,aP,aQ,⟨n_,ln_,e1_,e2_,e3_,hS⟩⟩
  ·obtain rfl:=aF ‹_›
   obtain ⟨R,hI⟩:=hS.inv; refine aX hI 0 aJ rfl rfl ?_
   exact ⟨ax,ay,az,aA,aF,fun _=>rfl,aE,aM,aN,aR,aq,ar,aD,aP,aQ,⟨n_,ln_,e1_,e2_,e3_,hS⟩⟩
  ·obtain rfl:=aH ‹_›
   refine be (i:=1) aC (by simp) ?_
   exact ⟨ax,ay,az,aA,aF,aH,fun _=>rfl,aM,aN,aR,aq,ar,aD,aP,aQ,⟨n_,ln_,e1_,e2_,e3_,hS⟩⟩
  ·obtain rfl:=aE ‹_›
   obtain ⟨R,hI⟩:=hS.inv; refine cL ai (RdT.length (hR 1 (by simp))) (fun j v hj=>by rw [hI.cellS hSb]; exact bh rfl j v hj) ?_
   exact ⟨ax,ay,az,aA,aF,aH,aE,fun _=>rfl,aN,aR,aq,ar,aD,aP,aQ,⟨n_,ln_,e1_,e2_,e3_,hS⟩⟩
  ·obtain rfl:n_=0:=vo e1_ bX
   refine eh hS bO fun v w_ hI=>?_
   have hS:neSt w X [.blk b2 (.cells #[.int .i64 k,.int .i64 n,.string s,.slice (some ⟨b,o,none⟩) [x,y].length cap] ab),.blk kb (.cells kc ab)] S N st' r v tV lx w_ 1:=hI
   exact ⟨ax,ay,az,aA,aF,aH,aE,aM,fun _=>by first|assumption|trivial,aR,aq,ar,aD,aP,aQ,⟨1,by decide,rfl,(by first|exact e2_|rfl),(by first|exact e3_|rfl),hS⟩⟩
  ·exact ⟨ax,ay,az,aA,aF,aH,aE,aM,aN,fun _=>rfl,aq,ar,aD,aP,aQ,⟨n_,ln_,e1_,e2_,e3_,hS⟩⟩
  ·have BL:=aN ‹_›
   obtain rfl:=aR ‹_›
   obtain rfl:n_=1:=gf e1_ ‹D 8=true› e2_ bX
   have hI:Inv w X ([.blk b2 (.cells #[.int .i64 k,.int .i64 n,.string s,.slice (some ⟨b,o,none⟩) [x,y].length cap] ab),.blk kb (.cells kc ab)]++[.row iz ab 4 0 []]) S w_:=hS
   have hI:=hI.perm (M:=[.blk b2 (.cells #[.int .i64 k,.int .i64 n,.string s,.slice (some ⟨b,o,none⟩) [x,y].length cap] ab),bq iz ab 4 []]++bV [(kb,.cells kc ab)]) ((List.Perm.swap ..).cons _)
   obtain ⟨S1,hle,hins,hI,hback⟩:=Inv.lendAll _ hI
   have hkN:=hg.len
   have hrd:=hk.rd (hins _ (List.mem_singleton.2 rfl)) (by rw [hkN]; exact hkp) hkp2
   rw [hkN] at hrd
   refine ed hI 1 bO (by omega) rfl hrd (fun _ _=>RdO.length) (fun _ _=>RdO.one) (by rw [hkN]; simp; omega) (by omega) fun v w_ css2 hR2 hI=>?_
   have hI:=hback _ _ hI
   have hI:Inv w X ([.blk b2 (.cells #[.int .i64 k,.int .i64 n,.string s,.slice (some ⟨b,o,none⟩) [x,y].length cap] ab),.blk kb (.cells kc ab)]++[bq v ab 4 css2]) S w_:=hI.perm ((List.Perm.swap ..).cons _)
   obtain ⟨g,cp,cur,rfl,hc1,hc2,hkn,hI⟩:=Inv.tab hI hR2 (by omega)
   rw [hkN]
   have hS:neSt w X [.blk b2 (.cells #[.int .i64 k,.int .i64 n,.string s,.slice (some ⟨b,o,none⟩) [x,y].length cap] ab),.blk kb (.cells kc ab)] S N st' r iz (kvU g N cp) lx w_ 2:=⟨g,cp,cur,rfl,hkn,hI⟩
   exact ⟨ax,ay,az,aA,aF,aH,aE,aM,aN,aR,fun _=>by first|assumption|trivial,ar,aD,aP,aQ,⟨2,by decide,(by first|exact e1_|rfl),rfl,(by first|exact e3_|rfl),hS⟩⟩
  ·obtain rfl:=aA ‹_›
   obtain rfl:=aM ‹_›
   have wv:=aq ‹_›
   obtain rfl:n_=2:=gf e2_ ‹D 10=true› e3_ bX
   obtain ⟨g,cp,cur,rfl,hkn,hI⟩:=hS
   refine Run.callE eQ eO hI (fP (kp:=cp) hN hg hjj hu S _ _ g cur (hR 0 (by simp)) (hR 1 (by simp)) hkn) fun v' I' S' w_=>?_
   rintro ⟨eS,rfl,kcx,rfl,hkx⟩ _ hI
   rw [eS] at hI
   have hS:neSt w X [.blk b2 (.cells #[.int .i64 k,.int .i64 n,.string s,.slice (some ⟨b,o,none⟩) [x,y].length cap] ab),.blk kb (.cells kc ab)] S N st' r iz (kvU g N cp) (.bool r) w_ 3:=⟨rfl,_,hI⟩
   exact ⟨ax,ay,az,aA,aF,aH,aE,aM,aN,aR,aq,fun _=>by first|assumption|trivial,aD,aP,aQ,⟨3,by decide,(by first|exact e1_|rfl),(by first|exact e2_|rfl),rfl,hS⟩⟩
  ·have MI:=ar ‹_›
   have hn3:=kq ln_ e3_ ‹D 11=true›
   have hS3:=hS
   rw [hn3] at hS3
   obtain ⟨hx41,_⟩:=hS3
   subst hx41
   refine cK ?_
   exact ⟨ax,ay,az,aA,aF,aH,aE,aM,aN,aR,aq,ar,fun _=>rfl,aP,aQ,⟨n_,ln_,e1_,e2_,e3_,hS⟩⟩
  ·obtain rfl:=aD ‹_›
   have hn3:=kq ln_ e3_ ‹D 11=true›
   rw [hn3] at hS
   obtain ⟨hx41,R,hI⟩:=hS
   refine Run.callPure du dv hI (cH (!r) S) fun w_ hI=>?_
   have hS:neSt w X [.blk b2 (.cells #[.int .i64 k,.int .i64 n,.string s,.slice (some ⟨b,o,none⟩) [x,y].length cap] ab),.blk kb (.cells kc ab)] S N st' r iz tV lx w_ n_:=by rw [hn3]; exact ⟨hx41,R,hI⟩
   exact ⟨ax,ay,az,aA,aF,aH,aE,aM,aN,aR,aq,ar,aD,fun _=>rfl,aQ,⟨n_,ln_,e1_,e2_,e3_,hS⟩⟩
  ·obtain rfl:=aP ‹_›
   exact ⟨ax,ay,az,aA,aF,aH,aE,aM,aN,aR,aq,ar,aD,aP,fun _=>rfl,⟨n_,ln_,e1_,e2_,e3_,hS⟩⟩
  obtain rfl:n_=3:=kq ln_ e3_ ‹D 11=true›
  have OJ:D 14=true:=by assumption
  clear e1_ e2_ e3_
  obtain rfl:=aQ OJ
  obtain ⟨_,R,hI⟩:=hS
  exact ⟨_,_,S,rfl,hI.sub (((List.nil_sublist _).cons_cons _).cons _),Ext.refl _ _ _,rfl,rfl,kc,rfl,hk⟩
 refine bJ ?_
 refine bz (fun h=>?_) (fun h4=>?_)
 ·obtain ⟨x,y,rfl⟩:=tB (l:=ks) (by have:=jk (by rw [h]; decide +kernel) hbs; omega)
  have hj:jM (.mk k n s [x,y])=.done (gj (eqT x y)):=by
   rw [jM,if_neg (show ¬ (T.mk k n s [x,y]).name=ou from h0),if_neg (show ¬ (T.mk k n s [x,y]).name=rH from h1),if_neg (show ¬ (T.mk k n s [x,y]).name=nEq from h2),if_neg (show ¬ (T.mk k n s [x,y]).name=nNe from h3),if_pos (show (T.mk k n s [x,y]).name=Bp from h)]
   rfl
  rw [hj] at hB hbj
  obtain ⟨b,o,cap,c,E,fz,rfl,hSb,hR⟩:=hks.ptr (by simp)
  refine ⟨fun D x4 tC uO pK jS sS tS uY pL lH sA w_=>(D 0=true->sA=.pointer (some ⟨b2,3,none⟩))/\(D 1=true->lH=.slice (some ⟨b,o,none⟩) [x,y].length cap)/\(D 2=true->pL=.pointer (some ⟨b,o+0 * 4,none⟩))/\(D 3=true->uY=.agg (bm c (o+0 * 4) 4).toArray)/\(D 4=true->tS=.pointer (some ⟨b2,3,none⟩))/\(D 5=true->sS=.slice (some ⟨b,o,none⟩) [x,y].length cap)/\(D 6=true->jS=.pointer (some ⟨b,o+1 * 4,none⟩))/\(D 7=true->pK=.agg (bm c (o+1 * 4) 4).toArray)/\(D 8=true->uO=.bool (eqT x y))/\(D 9=true->tC=.int .i64 (gj (eqT x y)))/\(D 10=true->x4=.int .i64 (gj (eqT x y)))/\Inv w X [.blk b2 (.cells #[.int .i64 k,.int .i64 n,.string s,.slice (some ⟨b,o,none⟩) [x,y].length cap] ab),.blk kb (.cells kc ab)] S w_,⟨ac,ac,ac,ac,ac,ac,ac,ac,ac,ac,ac,hI.draw⟩,⟨?_,?_,?_,?_,?_,?_,?_,?_,?_,?_,?_,trivial⟩,?_⟩
  all_goals (intro D bX; intros; rename_i x4 tC uO pK jS sS tS uY pL lH sA w_ hA_; obtain ⟨ax,ay,az,aA,aF,aH,aE,aM,aN,aR,aq,hI⟩:=hA_)
  ·refine aI aK ?_
   exact ⟨fun _=>rfl,ay,az,aA,aF,aH,aE,aM,aN,aR,aq,hI⟩
  ·obtain rfl:=ax ‹_›
   refine aX hI 0 aJ rfl rfl ?_
   exact ⟨ax,fun _=>rfl,az,aA,aF,aH,aE,aM,aN,aR,aq,hI⟩
  ·obtain rfl:=ay ‹_›
   refine be (i:=0) aC (by simp) ?_
   exact ⟨ax,ay,fun _=>rfl,aA,aF,aH,aE,aM,aN,aR,aq,hI⟩
  ·obtain rfl:=az ‹_›
   refine cL ai (RdT.length (hR 0 (by simp))) (fun j v hj=>by rw [hI.cellS hSb]; exact bh rfl j v hj) ?_
   exact ⟨ax,ay,az,fun _=>rfl,aF,aH,aE,aM,aN,aR,aq,hI⟩
  ·refine aI aK ?_
   exact ⟨ax,ay,az,aA,fun _=>rfl,aH,aE,aM,aN,aR,aq,hI⟩
  ·obtain rfl:=aF ‹_›
   refine aX hI 0 aJ rfl rfl ?_
   exact ⟨ax,ay,az,aA,aF,fun _=>rfl,aE,aM,aN,aR,aq,hI⟩
  ·obtain rfl:=aH ‹_›
   refine be (i:=1) aC (by simp) ?_
   exact ⟨ax,ay,az,aA,aF,aH,fun _=>rfl,aM,aN,aR,aq,hI⟩
  ·obtain rfl:=aE ‹_›
   refine cL ai (RdT.length (hR 1 (by simp))) (fun j v hj=>by rw [hI.cellS hSb]; exact bh rfl j v hj) ?_
   exact ⟨ax,ay,az,aA,aF,aH,aE,fun _=>rfl,aN,aR,aq,hI⟩
  ·obtain rfl:=aA ‹_›
   obtain rfl:=aM ‹_›
   refine Run.callPure oL oH hI (sY x y S _ _ (hR 0 (by simp)) (hR 1 (by simp))) fun w_ hI=>?_
   exact ⟨ax,ay,az,aA,aF,aH,aE,aM,fun _=>rfl,aR,aq,hI⟩
  ·obtain rfl:=aN ‹_›
   refine Run.callPure du dv hI (cH _ S) fun w_ hI=>?_
   exact ⟨ax,ay,az,aA,aF,aH,aE,aM,aN,fun _=>rfl,aq,hI⟩
  ·obtain rfl:=aR ‹_›
   exact ⟨ax,ay,az,aA,aF,aH,aE,aM,aN,aR,fun _=>rfl,hI⟩
  obtain rfl:=aq ‹_›
  obtain rfl:=aR ‹_›
  obtain rfl:=aN ‹_›
  obtain rfl:=aM ‹_›
  obtain rfl:=aE ‹_›
  obtain rfl:=aH ‹_›
  obtain rfl:=aF ‹_›
  obtain rfl:=aA ‹_›
  obtain rfl:=az ‹_›
  obtain rfl:=ay ‹_›
  obtain rfl:=ax ‹_›
  clear ax ay az aA aF aH aE aM aN aR aq
  exact fin _ rfl hB hI ((List.Sublist.refl _).cons _)
 refine bJ ?_
 refine bz (fun h=>?_) (fun h5=>?_)
 ·obtain ⟨x,y,rfl⟩:=tB (l:=ks) (by have:=jk (by rw [h]; decide +kernel) hbs; omega)
  have hj:jM (.mk k n s [x,y])=if (dz y).2≠0 then .done (dz y).2 else .uni x (EL (dz y).1):=by
   rw [jM,if_neg (show ¬ (T.mk k n s [x,y]).name=ou from h0),if_neg (show ¬ (T.mk k n s [x,y]).name=rH from h1),if_neg (show ¬ (T.mk k n s [x,y]).name=nEq from h2),if_neg (show ¬ (T.mk k n s [x,y]).name=nNe from h3),if_neg (show ¬ (T.mk k n s [x,y]).name=Bp from h4),if_pos (show (T.mk k n s [x,y]).name=nIs from h)]
   rfl
  rw [hj] at hB hbj
  obtain ⟨b,o,cap,c,E,fz,rfl,hSb,hR⟩:=hks.ptr (by simp)
  have ny:=hH hn.2 y (by simp)
  refine ao hI 0 rfl aK aJ rfl ?_
  refine cJ (i:=1) hI hks aC ai (by simp) (fun _ _=>RdT.length) fun ds hds=>?_
  refine Run.callPure gh gq hI (ij y S ds hds ny) fun w' hI=>?_
  refine aB (v:=.int .i64 _) rfl ?_
  refine aB (v:=.int .i64 _) rfl ?_
  refine dB ?_
  refine aS (fun h6=>?_) (fun h6=>?_)
  ·simp at h6
   exact fin _ (if_pos h6) hB hI ((List.Sublist.refl _).cons _)
  simp at h6
  rw [if_neg (by simp [h6])] at hB hbj
  obtain ⟨r,hu,rfl⟩:=hB
  have hjj:okJ N (.one x (EL (dz y).1)):=hbj
  have hsm:=rl y ny
  unfold Sm at hsm
  refine ⟨fun D x4 IH IB J3 JZ Kn K4 Lk J0 JY w_=>(D 0=true->JY=.pointer (some ⟨b2,3,none⟩))/\(D 1=true->J0=.slice (some ⟨b,o,none⟩) [x,y].length cap)/\(D 2=true->Lk=.pointer (some ⟨b,o+0 * 4,none⟩))/\(D 3=true->K4=.agg (bm c (o+0 * 4) 4).toArray)/\(D 4=true->Kn=.int .i64 (dz y).1)/\(D 5=true->JZ=xB 2 (dz y).1)/\(D 6=true->J3=kvU kb N kp)/\(D 7=true->IB=.bool r)/\(D 8=true->IH=.int .i64 (gj r))/\(D 9=true->x4=.int .i64 (gj r))/\∃ kcx,(D 7=false->kcx=kc)/\(D 7=true->KnU S kcx st')/\Inv w X [.blk b2 (.cells #[.int .i64 k,.int .i64 n,.string s,.slice (some ⟨b,o,none⟩) [x,y].length cap] ab),.blk kb (.cells kcx ab)] S w_,⟨ac,ac,ac,ac,ac,ac,ac,ac,ac,ac,⟨kc,fun _=>rfl,ac,hI.draw⟩⟩,⟨?_,?_,?_,?_,?_,?_,?_,?_,?_,?_,trivial⟩,?_⟩
  all_goals (intro D bX; intros; rename_i x4 IH IB J3 JZ Kn K4 Lk J0 JY w_ hA_; obtain ⟨ax,ay,az,aA,aF,aH,aE,aM,aN,aR,⟨kcx,k0,k1,hI⟩⟩:=hA_)
  ·refine aI aK ?_
   exact ⟨fun _=>rfl,ay,az,aA,aF,aH,aE,aM,aN,aR,⟨kcx,k0,k1,hI⟩⟩
  ·obtain rfl:=ax ‹_›
   refine aX hI 0 aJ rfl rfl ?_
   exact ⟨ax,fun _=>rfl,az,aA,aF,aH,aE,aM,aN,aR,⟨kcx,k0,k1,hI⟩⟩
  ·obtain rfl:=ay ‹_›
   refine be (i:=0) aC (by simp) ?_
   exact ⟨ax,ay,fun _=>rfl,aA,aF,aH,aE,aM,aN,aR,⟨kcx,k0,k1,hI⟩⟩
  ·obtain rfl:=az ‹_›
   refine cL ai (RdT.length (hR 0 (by simp))) (fun j v hj=>by rw [hI.cellS hSb]; exact bh rfl j v hj) ?_
   exact ⟨ax,ay,az,fun _=>rfl,aF,aH,aE,aM,aN,aR,⟨kcx,k0,k1,hI⟩⟩
  ·exact ⟨ax,ay,az,aA,fun _=>rfl,aH,aE,aM,aN,aR,⟨kcx,k0,k1,hI⟩⟩
  ·obtain rfl:=aF ‹_›
   refine Run.callPure kQ k3 hI (gY _ S) fun w_ hI=>?_
   exact ⟨ax,ay,az,aA,aF,fun _=>rfl,aE,aM,aN,aR,⟨kcx,k0,k1,hI⟩⟩
  ·exact ⟨ax,ay,az,aA,aF,aH,fun _=>rfl,aM,aN,aR,⟨kcx,k0,k1,hI⟩⟩
  ·obtain rfl:=aA ‹_›
   obtain rfl:=aH ‹_›
   obtain rfl:=aE ‹_›
   have e0:=k0 bX
   rw [e0] at hI
   have hI:Inv w X ([.blk b2 (.cells #[.int .i64 k,.int .i64 n,.string s,.slice (some ⟨b,o,none⟩) [x,y].length cap] ab)]++[.blk kb (.cells kc ab)]) S w_:=hI
   refine Run.callE (A:=[_]) eQ eO hI (fP (kp:=kp) hN hg hjj hu S _ _ kb kc (hR 0 (by simp)) (np (by simp [inI]) (by simp only [inI]; omega)) hk) fun v' I' S' w_=>?_
   rintro ⟨eS,rfl,kcx,rfl,hkx⟩ _ hI
   rw [eS] at hI
   have hI:Inv w X [.blk b2 (.cells #[.int .i64 k,.int .i64 n,.string s,.slice (some ⟨b,o,none⟩) [x,y].length cap] ab),.blk kb (.cells kcx ab)] S w_:=hI
   have k0:=fun (h:ah D 7 7=false)=>(Bool.noConfusion h:kcx=kc)
   have k1:=fun (_:ah D 7 7=true)=>hkx
   exact ⟨ax,ay,az,aA,aF,aH,aE,fun _=>rfl,aN,aR,⟨kcx,k0,k1,hI⟩⟩
  ·obtain rfl:=aM ‹_›
   refine Run.callPure du dv hI (cH r S) fun w_ hI=>?_
   exact ⟨ax,ay,az,aA,aF,aH,aE,aM,fun _=>rfl,aR,⟨kcx,k0,k1,hI⟩⟩
  ·obtain rfl:=aN ‹_›
   exact ⟨ax,ay,az,aA,aF,aH,aE,aM,aN,fun _=>rfl,⟨kcx,k0,k1,hI⟩⟩
  obtain rfl:=aR ‹_›
  obtain rfl:=aN ‹_›
  obtain rfl:=aM ‹_›
  obtain rfl:=aE ‹_›
  obtain rfl:=aH ‹_›
  obtain rfl:=aF ‹_›
  obtain rfl:=aA ‹_›
  obtain rfl:=az ‹_›
  obtain rfl:=ay ‹_›
  obtain rfl:=ax ‹_›
  have Bk:D 7=true:=by assumption
  clear ax ay az aA aF aH aE aM aN aR
  have hkx:=k1 Bk
  exact ⟨_,_,S,rfl,hI.sub (((List.Sublist.refl _).cons _)),Ext.refl _ _ _,rfl,rfl,kcx,rfl,hkx⟩
 refine bJ ?_
 refine bz (fun h=>?_) (fun h6=>?_)
 ·obtain ⟨x,y,z,rfl⟩:=Kt (l:=ks) (by have:=Iv (h ▸ hbs); omega)
  have hj:jM (.mk k n s [x,y,z])=yi x y z:=by
   rw [jM,if_neg (show ¬ (T.mk k n s [x,y,z]).name=ou from h0),if_neg (show ¬ (T.mk k n s [x,y,z]).name=rH from h1),if_neg (show ¬ (T.mk k n s [x,y,z]).name=nEq from h2),if_neg (show ¬ (T.mk k n s [x,y,z]).name=nNe from h3),if_neg (show ¬ (T.mk k n s [x,y,z]).name=Bp from h4),if_neg (show ¬ (T.mk k n s [x,y,z]).name=nIs from h5),if_pos (show (T.mk k n s [x,y,z]).name=Ll from h)]
   rfl
  rw [hj] at hB hbj
  refine aL hI 0 ai rfl rfl ?_
  refine Run.call0 Hp H3 hI (Ab hgl) fun v1 I' S' w'=>?_
  rintro ⟨rfl,eS,ds,cd,rfl,hdl,hd1,hcase⟩ _ hI
  rw [eS] at hI
  have hI:=hI
  refine aB (v:=.agg ds.toArray) rfl ?_
  refine aB (v:=.int .i64 cd) rfl ?_
  refine bi hI bH fun b7 w' hI=>?_
  refine aG hI 2 rfl ai (by simpa using hdl) rfl (by simpa using hd1) fun w' hI=>?_
  obtain ⟨b,o,cap,c,E,fz,rfl,hSb,hR⟩:=hks.ptr (by simp)
  have hI:Inv w X [.blk b2 (.cells #[.int .i64 k,.int .i64 n,.string s,.slice (some ⟨b,o,none⟩) [x,y,z].length cap] ab),.blk kb (.cells kc ab),.blk b7 (.cells ds.toArray ab)] S w':=hI
  refine dB ?_
  obtain ⟨j,hja⟩:∃ j,yi x y z=j:=⟨_,rfl⟩
  rw [hja] at hcase hB hbj
  match j,hja,hcase,hB,hbj with
  | .done c2,_,hcase,hB,_=>
   obtain ⟨rfl,hne⟩:=hcase
   rw [decide_eq_false hne]
   refine aS (fun _=>?_) (fun hb=>by cases hb)
   exact fin _ rfl hB hI (((List.nil_sublist _).cons_cons _).cons _)
  | .not _ _,_,hcase,_,_=>exact hcase.elim
  | .uni u t,hja,hcase,hB,hbj=>
   obtain ⟨rfl,hdt⟩:=hcase
   refine aS (fun hb=>by cases hb) (fun _=>?_)
   obtain rfl:u=z:=by
    unfold yi at hja
    split at hja
    ·cases hja
    split at hja
    ·cases hja
    split at hja
    ·cases hja
    ·rw [BJ.uni.injEq] at hja
     exact hja.1.symm
   obtain ⟨r,hu,rfl⟩:=hB
   have hjj:okJ N (.one u t):=hbj
   refine ⟨fun D x4 Oj M0 MC Mo KV Kl JV IQ w_=>(D 0=true->IQ=.pointer (some ⟨b2,3,none⟩))/\(D 1=true->JV=.slice (some ⟨b,o,none⟩) [x,y,u].length cap)/\(D 2=true->Kl=.pointer (some ⟨b,o+2 * 4,none⟩))/\(D 3=true->KV=.agg (bm c (o+2 * 4) 4).toArray)/\(D 4=true->Mo=.agg ds.toArray)/\(D 5=true->MC=kvU kb N kp)/\(D 6=true->M0=.bool r)/\(D 7=true->Oj=.int .i64 (gj r))/\(D 8=true->x4=.int .i64 (gj r))/\∃ kcx,(D 6=false->kcx=kc)/\(D 6=true->KnU S kcx st')/\Inv w X [.blk b2 (.cells #[.int .i64 k,.int .i64 n,.string s,.slice (some ⟨b,o,none⟩) [x,y,u].length cap] ab),.blk kb (.cells kcx ab),.blk b7 (.cells ds.toArray ab)] S w_,⟨ac,ac,ac,ac,ac,ac,ac,ac,ac,⟨kc,fun _=>rfl,ac,hI.draw⟩⟩,⟨?_,?_,?_,?_,?_,?_,?_,?_,?_,trivial⟩,?_⟩
   all_goals (intro D bX; intros; rename_i x4 Oj M0 MC Mo KV Kl JV IQ w_ hA_; obtain ⟨ax,ay,az,aA,aF,aH,aE,aM,aN,⟨kcx,k0,k1,hI⟩⟩:=hA_)
   ·refine aI aK ?_
    exact ⟨fun _=>rfl,ay,az,aA,aF,aH,aE,aM,aN,⟨kcx,k0,k1,hI⟩⟩
   ·obtain rfl:=ax ‹_›
    refine aX hI 0 aJ rfl rfl ?_
    exact ⟨ax,fun _=>rfl,az,aA,aF,aH,aE,aM,aN,⟨kcx,k0,k1,hI⟩⟩
   ·obtain rfl:=ay ‹_›
    refine be (i:=2) aC (by simp) ?_
    exact ⟨ax,ay,fun _=>rfl,aA,aF,aH,aE,aM,aN,⟨kcx,k0,k1,hI⟩⟩
   ·obtain rfl:=az ‹_›
    refine cL ai (RdT.length (hR 2 (by simp))) (fun j v hj=>by rw [hI.cellS hSb]; exact bh rfl j v hj) ?_
    exact ⟨ax,ay,az,fun _=>rfl,aF,aH,aE,aM,aN,⟨kcx,k0,k1,hI⟩⟩
   ·refine aL hI 2 ai rfl (by simpa using hdl) ?_
    exact ⟨ax,ay,az,aA,fun _=>rfl,aH,aE,aM,aN,⟨kcx,k0,k1,hI⟩⟩
   ·exact ⟨ax,ay,az,aA,aF,fun _=>rfl,aE,aM,aN,⟨kcx,k0,k1,hI⟩⟩
   ·obtain rfl:=aA ‹_›
    obtain rfl:=aF ‹_›
    obtain rfl:=aH ‹_›
    have e0:=k0 bX
    rw [e0] at hI
    have hI:=hI.perm (M:=[.blk b2 (.cells #[.int .i64 k,.int .i64 n,.string s,.slice (some ⟨b,o,none⟩) [x,y,u].length cap] ab),.blk b7 (.cells ds.toArray ab)]++[.blk kb (.cells kc ab)]) ((List.Perm.swap ..).cons _)
    refine Run.callE (A:=[_,_]) eQ eO hI (fP (kp:=kp) hN hg hjj hu S _ _ kb kc (hR 2 (by simp)) hdt hk) fun v' I' S' w_=>?_
    rintro ⟨eS,rfl,kcx,rfl,hkx⟩ _ hI
    rw [eS] at hI
    have hI:Inv w X [.blk b2 (.cells #[.int .i64 k,.int .i64 n,.string s,.slice (some ⟨b,o,none⟩) [x,y,u].length cap] ab),.blk kb (.cells kcx ab),.blk b7 (.cells ds.toArray ab)] S w_:=hI.perm ((List.Perm.swap ..).cons _)
    have k0:=fun (h:ah D 6 6=false)=>(Bool.noConfusion h:kcx=kc)
    have k1:=fun (_:ah D 6 6=true)=>hkx
    exact ⟨ax,ay,az,aA,aF,aH,fun _=>rfl,aM,aN,⟨kcx,k0,k1,hI⟩⟩
   ·obtain rfl:=aE ‹_›
    refine Run.callPure du dv hI (cH r S) fun w_ hI=>?_
    exact ⟨ax,ay,az,aA,aF,aH,aE,fun _=>rfl,aN,⟨kcx,k0,k1,hI⟩⟩
   ·obtain rfl:=aM ‹_›
    exact ⟨ax,ay,az,aA,aF,aH,aE,aM,fun _=>rfl,⟨kcx,k0,k1,hI⟩⟩
   obtain rfl:=aN ‹_›
   obtain rfl:=aM ‹_›
   obtain rfl:=aE ‹_›
   obtain rfl:=aH ‹_›
   obtain rfl:=aF ‹_›
   obtain rfl:=aA ‹_›
   obtain rfl:=az ‹_›
   obtain rfl:=ay ‹_›
   obtain rfl:=ax ‹_›
   have OH:D 6=true:=by assumption
   clear ax ay az aA aF aH aE aM aN
   have hkx:=k1 OH
   exact ⟨_,_,S,rfl,hI.sub (((List.nil_sublist _).cons_cons _).cons _),Ext.refl _ _ _,rfl,rfl,kcx,rfl,hkx⟩
 have hrest:jM (.mk k n s ks)=if dd s eU=true then .done (MH s (fb ks)) else .done (gj (u6 s (kd (.mk k n s ks) 0))):=by
  rw [jM,if_neg (show ¬ (T.mk k n s ks).name=ou from h0),if_neg (show ¬ (T.mk k n s ks).name=rH from h1),if_neg (show ¬ (T.mk k n s ks).name=nEq from h2),if_neg (show ¬ (T.mk k n s ks).name=nNe from h3),if_neg (show ¬ (T.mk k n s ks).name=Bp from h4),if_neg (show ¬ (T.mk k n s ks).name=nIs from h5),if_neg (show ¬ (T.mk k n s ks).name=Ll from h6)]
  rfl
 rw [hrest] at hB
 refine ao hI 0 rfl bB bn rfl ?_
 refine Run.callPure wt vO hI (py s S) fun w' hI=>?_
 refine aS (fun hc=>?_) (fun hc=>?_)
 ·rw [if_pos hc] at hB
  have hl:ks.length=2:=by have:=jk (LN hc) hbs; omega
  refine aL hI 0 ai rfl rfl ?_
  refine Run.callPure y5 y4 hI (qk hgl hl hn.2) fun w' hI=>?_
  exact fin _ rfl hB hI ((List.Sublist.refl _).cons _)
 rw [hc,if_neg (by decide)] at hB
 obtain ⟨x,rfl⟩:=NQ (l:=ks) (by
  rcases KP hbs h0 h1 h2 h3 h4 h5 hc with ⟨_,h⟩|⟨h,_⟩
  ·omega
  ·exact absurd h h6)
 refine aL hI 0 ai rfl rfl ?_
 refine Run.callPure EX EV hI (xV hgl) fun w' hI=>?_
 exact fin _ rfl hB hI ((List.Sublist.refl _).cons _)
end
end Go.Proofs.YtfcbhfjomgopbaaGreat

/- impl: walks and occurrence. -/
namespace Go.Proofs.YtfcbhfjomgopbaaGreat
open Go Go.RowKit
section
variable {P:Program} {w w0:World} {X:List Nat} {L:List Item} {S:al} {K:Value->World->Prop}
attribute [local irreducible] Run CondV ag aO
end
section
attribute [local irreducible] Run CondV ag aO
/- slices.ContainsFunc with a function that changes what it is lent -/
/- the store of impl in published memory -/
def StS (S0 S:al) (sb:Nat) (st:bf):Prop:=∃ mb tv es ck E,S sb=some (.cells #[.map (some mb),tv] E)/\S mb=some (.map es ck)/\KnownM S0 es st
theorem StS.mono {S0 S S':al} {sb:Nat} {st:bf} (h:StS S0 S sb st) (hs:Sle S S'):StS S0 S' sb st:=by
 obtain ⟨mb,tv,es,ck,E,h1,h2,h3⟩:=h
 exact ⟨mb,tv,es,ck,E,hs _ _ h1,hs _ _ h2,h3⟩
/- the variables that impl.occurs has met -/
def MetM (es:Array MapEntry) (met:Nat->Prop):Prop:=(∀ e∈es.toList,∃ n:Nat,e.key=.int .i64 n/\e.val=.bool true/\met n)/\∀ n,met n->∃ e∈es.toList,e.key=.int .i64 (n:Nat)
theorem MetM.push {es:Array MapEntry} {met:Nat->Prop} (h:MetM es met) (n:Nat) (ck:Nat):MetM (es.push { key:=.int .i64 n,val:=.bool true,born:=ck }) (fun m=>met m ∨ m=n):=by
 refine ⟨fun e he=>?_,fun m hm=>?_⟩
 ·rw [Array.toList_push] at he
  rcases List.mem_append.1 he with he|he
  ·obtain ⟨m,hk,hv,hm⟩:=h.1 e he
   exact ⟨m,hk,hv,.inl hm⟩
  ·simp at he
   subst he
   exact ⟨n,rfl,rfl,.inr rfl⟩
 ·rw [Array.toList_push]
  rcases hm with hm|rfl
  ·obtain ⟨x,hx,hk⟩:=h.2 m hm
   exact ⟨x,List.mem_append_left _ hx,hk⟩
  ·exact ⟨_,List.mem_append_right _ (List.mem_singleton.2 rfl),rfl⟩
theorem MetM.empty:MetM #[] (fun _=>False):=⟨fun e he=>by simp at he,fun n h=>h.elim⟩
/- what impl.occurs does -/
end

end Go.Proofs.YtfcbhfjomgopbaaGreat

/- impl: binding, unification. -/
namespace Go.Proofs.YtfcbhfjomgopbaaGreat
open Go Go.RowKit
/- a store of one's own -/
section
attribute [local irreducible] Run CondV ag aO
/- what is taken back when bindings are undone -/
def qQ:bf->List Int->bf
 | st,[]=>st
 | st,n::ns=>(qQ st ns).set n.toNat none
theorem Fx (st:bf):∀ a b:List Int,qQ st (a++b)=qQ (qQ st b) a
 | [],_=>rfl
 | n::a,b=>by rw [List.cons_append,qQ,qQ,Fx st a b]
theorem Fu (st:bf):∀ (ns:List Int) (i:Nat),(qQ st ns)[i]?=if (∃ n∈ns,n.toNat=i) then st[i]?.map (fun _=>none) else st[i]?
 | [],i=>by rw [qQ,if_neg (by simp)]
 | n::ns,i=>by
  rw [qQ,List.getElem?_set,Fu st ns]
  have hl:(qQ st ns).length=st.length:=by
   clear i
   induction ns with
   | nil=>rfl
   | cons m ns ih=>rw [qQ,List.length_set,ih]
  by_cases h1:n.toNat=i
  ·subst h1
   have h3:∃ m∈n::ns,m.toNat=n.toNat:=⟨n,by simp,rfl⟩
   by_cases h2:n.toNat<st.length
   ·rw [if_pos rfl,hl,if_pos h2,if_pos h3,List.getElem?_eq_getElem h2]; rfl
   ·rw [if_pos rfl,hl,if_neg h2,if_pos h3,List.getElem?_eq_none (by omega)]; rfl
  ·rw [if_neg h1]
   by_cases h2:∃ m∈ns,m.toNat=i
   ·obtain ⟨m,h3,h4⟩:=h2
    rw [if_pos ⟨m,h3,h4⟩,if_pos ⟨m,List.mem_cons_of_mem _ h3,h4⟩]
   ·rw [if_neg h2,if_neg]
    rintro ⟨m,h3,h4⟩
    rcases List.mem_cons.1 h3 with rfl|h3
    ·exact h1 h4
    ·exact h2 ⟨m,h3,h4⟩
def Tr (st st':bf) (tr tr':List Int):Prop:=∃ ns,tr'=tr++ns/\qQ st' ns=st/\∀ n∈ns,∃ j:Nat,n=(j:Int)/\st[j]?=some none
theorem Tr.refl (st:bf) (tr:List Int):Tr st st tr tr:=⟨[],(List.append_nil _).symm,rfl,by simp⟩
theorem Tr.bind {st:bf} {tr:List Int} {n:Nat} {t:T} (h:st[n]?=some none):Tr st (st.set n (some t)) tr (tr++[(n:Int)]):=by
 refine ⟨[(n:Int)],rfl,?_,fun m hm=>⟨n,List.mem_singleton.1 hm,h⟩⟩
 rw [qQ,qQ,Int.toNat_natCast,List.set_set]
 apply List.ext_getElem?
 intro i
 rw [List.getElem?_set]
 by_cases e:n=i
 ·subst e
  rw [if_pos rfl,h,if_pos (List.getElem?_eq_some_iff.1 h).1]
 ·rw [if_neg e]
theorem Tr.trans {a b c:bf} {x y z:List Int} (h:Tr a b x y) (h':Tr b c y z):Tr a c x z:=by
 obtain ⟨ns,rfl,rfl,h3⟩:=h
 obtain ⟨ms,rfl,rfl,h5⟩:=h'
 refine ⟨ns++ms,by rw [List.append_assoc],by rw [Fx],fun n hn=>?_⟩
 rcases List.mem_append.1 hn with hn|hn
 ·exact h3 n hn
 ·obtain ⟨j,rfl,hj⟩:=h5 n hn
  refine ⟨j,rfl,?_⟩
  rw [Fu]
  split
  ·rw [hj]; rfl
  ·exact hj
end

end Go.Proofs.YtfcbhfjomgopbaaGreat

/- impl's store: bindings are taken back. -/
namespace Go.Proofs.YtfcbhfjomgopbaaGreat
open Go Go.RowKit
theorem KnownM.clear {S:al} {es:Array MapEntry} {st:bf} (h:KnownM S es st) {n:Nat} (hn:∀ t,st[n]?≠some (some t)):KnownM S es (st.set n none):=by
 refine ⟨fun x hx=>?_,fun m t ht=>?_,h.2.2⟩
 ·obtain ⟨m,t,cs,hk,hv,hR,hs⟩:=h.1 x hx
  refine ⟨m,t,cs,hk,hv,hR,?_⟩
  have:n≠m:=by rintro rfl; exact hn t hs
  rw [List.getElem?_set_ne this]
  exact hs
 ·have hm:n≠m:=by
   rintro rfl
   rw [List.getElem?_set] at ht
   simp at ht
  rw [List.getElem?_set_ne hm] at ht
  exact h.2.1 m t ht
section
variable {P:Program} {w w0:World} {X:List Nat} {L:List Item} {S:al} {K:Value->World->Prop}
attribute [local irreducible] Run CondV ag aO
end
section
attribute [local irreducible] Run CondV ag aO
end
end Go.Proofs.YtfcbhfjomgopbaaGreat

/- The program's solver of goals that are built in. -/
namespace Go.Proofs.YtfcbhfjomgopbaaGreat
open Go Go.RowKit
section
variable {w:World} {X:List Nat} {S:al}
attribute [local irreducible] Run CondV ag aO
end
end Go.Proofs.YtfcbhfjomgopbaaGreat

/- impl: resolved terms, if they are small. -/
namespace Go.Proofs.YtfcbhfjomgopbaaGreat
open Go Go.RowKit
theorem KnownM.up {S S':al} {es:Array MapEntry} {st:bf} (h:KnownM S es st) (hs:Sle S S'):KnownM S' es st:=
 ⟨fun e he=>by
  obtain ⟨n,t,cs,h1,h2,h3,h4⟩:=h.1 e he
  exact ⟨n,t,cs,h1,h2,h3.mono hs,h4⟩,h.2⟩
theorem StS.up {S S':al} {sb:Nat} {st:bf} (h:StS S S sb st) (hs:Sle S S'):StS S' S' sb st:=by
 obtain ⟨mb,tv,es,ck,E,h1,h2,h3⟩:=h
 exact ⟨mb,tv,es,ck,E,hs _ _ h1,hs _ _ h2,h3.up hs⟩
section
attribute [local irreducible] Run CondV ag aO
end

end Go.Proofs.YtfcbhfjomgopbaaGreat

/- The standard order of terms: a total order on well-formed terms. -/
namespace Go.Proofs.YtfcbhfjomgopbaaGreat
open Go Go.RowKit

theorem yJ:∀ (a b c:List UInt8),Op.bytesLess a b=true->Op.bytesLess b c=true->Op.bytesLess a c=true
 | _,[],_,h,_=>by simp [Op.bytesLess] at h
 | _,_::_,[],_,h=>by simp [Op.bytesLess] at h
 | [],_::_,_::_,_,_=>by simp [Op.bytesLess]
 | x::a,y::b,z::c,h,h'=>by
  simp only [Op.bytesLess,Bool.or_eq_true,decide_eq_true_eq,Bool.and_eq_true,beq_iff_eq] at h h' ⊢
  rcases h with h|⟨rfl,h⟩
  ·rcases h' with h'|⟨rfl,h'⟩
   ·left; exact UInt8.lt_trans h h'
   ·left; exact h
  ·rcases h' with h'|⟨rfl,h'⟩
   ·left; exact h'
   ·right; exact ⟨rfl,yJ a b c h h'⟩
theorem Bq:∀ a:List UInt8,Op.bytesLess a a=false
 | []=>by simp [Op.bytesLess]
 | x::a=>by
  simp only [Op.bytesLess,Bq a,Bool.and_false,Bool.or_false,decide_eq_false_iff_not]
  exact UInt8.lt_irrefl x
theorem EN:∀ a b:List UInt8,a≠b->Op.bytesLess a b=true ∨ Op.bytesLess b a=true
 | [],[],h=>absurd rfl h
 | [],_::_,_=>.inl (by simp [Op.bytesLess])
 | _::_,[],_=>.inr (by simp [Op.bytesLess])
 | x::a,y::b,h=>by
  simp only [Op.bytesLess,Bool.or_eq_true,decide_eq_true_eq,Bool.and_eq_true,beq_iff_eq]
  by_cases e:x=y
  ·subst e
   rcases EN a b (fun e=>h (by rw [e])) with h1|h1
   ·exact .inl (.inr ⟨rfl,h1⟩)
   ·exact .inr (.inr ⟨rfl,h1⟩)
  ·rcases UInt8.lt_or_lt_of_ne e with h1|h1
   ·exact .inl (.inl h1)
   ·exact .inr (.inl h1)
def bls (a b:ByteArray):Bool:=Op.bytesLess a.toList b.toList
def lj (a b:Int):Int:=if a<b then -1 else if b<a then 1 else 0
def fC (a b:ByteArray):Int:=if bls a b=true then -1 else if bls b a=true then 1 else 0
def rkS (t:T):Int:=if t.kind=3/\0<t.kids.length then 4 else t.kind
def wc (a b:Int):Int:=if a≠0 then a else b
/- the head of a term: all but its kids -/
def hdC (t u:T):Int:=wc (lj (rkS t) (rkS u)) (wc (lj t.n u.n) (wc (lj t.kids.length u.kids.length) (fC t.name u.name)))
mutual
def tx:T->T->Int
 | .mk k n s ks,u=>wc (hdC (.mk k n s ks) u) (gg ks u.kids)
def gg:List T->List T->Int
 | [],[]=>0
 | [],_::_=>-1
 | _::_,[]=>1
 | t::ts,u::us=>wc (tx t u) (gg ts us)
end
theorem gZ (a b:Int):(a<b/\lj a b=-1) ∨ (b<a/\lj a b=1) ∨ (a=b/\lj a b=0):=by
 unfold lj
 by_cases h:a<b
 ·exact .inl ⟨h,if_pos h⟩
 ·by_cases h':b<a
  ·exact .inr (.inl ⟨h',by rw [if_neg h,if_pos h']⟩)
  ·exact .inr (.inr ⟨by omega,by rw [if_neg h,if_neg h']⟩)
theorem toList_inj {a b:ByteArray} (h:a.toList=b.toList):a=b:=by
 have:=zh a b
 rw [beq_iff_eq.2 h] at this
 exact of_decide_eq_true this.symm
theorem fQ (a b:ByteArray):(bls a b=true/\fC a b=-1) ∨ (bls b a=true/\bls a b=false/\fC a b=1) ∨ (a=b/\fC a b=0):=by
 unfold fC
 cases h:bls a b with
 | true=>exact .inl ⟨rfl,if_pos rfl⟩
 | false=>
  cases h':bls b a with
  | true=>exact .inr (.inl ⟨rfl,rfl,by simp⟩)
  | false=>
   refine .inr (.inr ⟨?_,by simp⟩)
   refine toList_inj (Decidable.byContradiction fun e=>?_)
   rcases EN _ _ e with h1|h1
   ·rw [bls,h1] at h; cases h
   ·rw [bls,h1] at h'; cases h'
theorem Kc {a b:ByteArray} (h:bls a b=true):bls b a=false:=by
 cases h':bls b a with
 | false=>rfl
 | true=>
  have:=yJ _ _ _ h h'
  rw [Bq] at this
  cases this

/- how three comparisons fit -/
structure TC (a b c:Int):Prop where
 lt:a=-1->b=-1->c=-1
 e1:a=0->c=b
 e2:b=0->c=a
theorem TC.lex {a b c a' b' c':Int} (h:TC a b c) (h':TC a' b' c'):TC (wc a a') (wc b b') (wc c c'):=by
 obtain ⟨h1,h2,h3⟩:=h
 obtain ⟨h4,h5,h6⟩:=h'
 unfold wc
 refine ⟨fun x y=>?_,fun x=>?_,fun x=>?_⟩
 ·by_cases ea:a=0
  ·rw [if_neg (by omega)] at x
   by_cases eb:b=0
   ·rw [if_neg (by omega)] at y
    rw [if_neg (by have:=h2 ea; omega)]
    exact h4 x y
   ·rw [if_pos (by omega)] at y
    have:=h2 ea
    rw [if_pos (by omega)]; omega
  ·rw [if_pos (by omega)] at x
   by_cases eb:b=0
   ·have:=h3 eb
    rw [if_pos (by omega)]; omega
   ·rw [if_pos (by omega)] at y
    have:=h1 x y
    rw [if_pos (by omega)]; omega
 ·by_cases ea:a=0
  ·rw [if_neg (by omega)] at x
   rw [h2 ea,h5 x]
  ·rw [if_pos (by omega)] at x; omega
 ·by_cases eb:b=0
  ·rw [if_neg (by omega)] at x
   rw [h3 eb,h6 x]
  ·rw [if_pos (by omega)] at x; omega
theorem TC.zero:TC 0 0 0:=⟨fun h=>by omega,fun _=>rfl,fun _=>rfl⟩
theorem TC.int (a b c:Int):TC (lj a b) (lj b c) (lj a c):=by
 have h1:=gZ a b
 have h2:=gZ b c
 have h3:=gZ a c
 exact ⟨fun _ _=>by omega,fun _=>by omega,fun _=>by omega⟩
theorem TC.str (a b c:ByteArray):TC (fC a b) (fC b c) (fC a c):=by
 refine ⟨fun x y=>?_,fun x=>?_,fun x=>?_⟩
 ·rcases fQ a b with h|h|h
  ·rcases fQ b c with h'|h'|h'
   ·have:=yJ _ _ _ h.1 h'.1
    unfold fC
    rw [if_pos (show bls a c=true from this)]
   ·omega
   ·omega
  ·omega
  ·omega
 ·rcases fQ a b with h|h|h
  ·omega
  ·omega
  ·rw [h.1]
 ·rcases fQ b c with h|h|h
  ·omega
  ·omega
  ·rw [h.1]
theorem TC.hd (t u v:T):TC (hdC t u) (hdC u v) (hdC t v):=(TC.int _ _ _).lex ((TC.int _ _ _).lex ((TC.int _ _ _).lex (TC.str _ _ _)))
mutual
theorem TC.term:∀ t u v:T,TC (tx t u) (tx u v) (tx t v)
 | .mk k n s ks,.mk k' n' s' ks',v=>by
  rw [tx,tx,tx]
  exact (TC.hd _ _ _).lex (TC.list ks ks' v.kids)
theorem TC.list:∀ t u v:List T,TC (gg t u) (gg u v) (gg t v)
 | [],[],[]=>by simpa [gg] using TC.zero
 | [],[],_::_=>by rw [gg,gg]; exact ⟨fun h=>by omega,fun _=>rfl,fun h=>by omega⟩
 | [],_::_,[]=>by rw [gg,gg,gg]; exact ⟨fun _ h=>by omega,fun h=>by omega,fun h=>by omega⟩
 | [],_::_,_::_=>by rw [gg,gg]; exact ⟨fun h _=>h,fun h=>by omega,fun h=>rfl⟩
 | _::_,[],[]=>by rw [gg,gg]; exact ⟨fun h _=>h,fun h=>by omega,fun h=>rfl⟩
 | _::_,[],_::_=>by rw [gg,gg]; exact ⟨fun h _=>by omega,fun h=>by omega,fun h=>by omega⟩
 | _::_,_::_,[]=>by rw [gg,gg]; exact ⟨fun _ h=>by omega,fun h=>rfl,fun h=>by omega⟩
 | t::ts,u::us,v::vs=>by
  rw [gg,gg,gg]
  exact (TC.term t u v).lex (TC.list ts us vs)
end
theorem m7 (a b:Int):-(wc a b)=wc (-a) (-b):=by
 unfold wc
 by_cases h:a=0
 ·subst h; simp
 ·rw [if_pos h,if_pos (by omega)]
theorem px (a b:Int):lj b a=-lj a b:=by
 have:=gZ a b
 have:=gZ b a
 omega
theorem CF (a b:ByteArray):fC b a=-fC a b:=by
 rcases fQ a b with h|h|h
 ·rw [h.2]
  have:=Kc h.1
  unfold fC
  rw [this,if_neg (by decide),if_pos h.1]; rfl
 ·rw [h.2.2]
  unfold fC
  rw [if_pos h.1]
 ·rw [h.2]
  obtain rfl:=h.1
  rw [h.2]; rfl
theorem Km (t u:T):hdC u t=-hdC t u:=by
 rw [hdC,hdC,m7,m7,m7,px (rkS t),px t.n,px t.kids.length,CF t.name]
mutual
theorem A1:∀ t u:T,tx u t=-tx t u
 | .mk k n s ks,.mk k' n' s' ks'=>by
  rw [tx,tx,m7,Km (.mk k n s ks)]
  congr 1
  exact Bl ks ks'
theorem Bl:∀ t u:List T,gg u t=-gg t u
 | [],[]=>by simp [gg]
 | [],_::_=>by simp [gg]
 | _::_,[]=>by simp [gg]
 | t::ts,u::us=>by rw [gg,gg,m7,A1 t u,Bl ts us]
end
theorem Jf (t:T):tx t t=0:=by
 have:=A1 t t
 omega
/- facts in order, each once -/
def Sorted:List T->Prop
 | []=>True
 | x::xs=>(∀ y∈xs,tx x y<0)/\Sorted xs
theorem Sorted.nodup:∀ {l:List T},Sorted l->l.Nodup
 | [],_=>List.nodup_nil
 | x::xs,h=>by
  rw [List.nodup_cons]
  refine ⟨fun hx=>?_,Sorted.nodup h.2⟩
  have:=h.1 x hx
  rw [Jf] at this
  omega

end Go.Proofs.YtfcbhfjomgopbaaGreat

/- spec.l1Compare. -/
namespace Go.Proofs.YtfcbhfjomgopbaaGreat
open Go Go.RowKit
section
variable {P:Program} {w:World} {K:Value->World->Prop}
attribute [local irreducible] Run
end
section
attribute [local irreducible] Run CondV ag aO
end

end Go.Proofs.YtfcbhfjomgopbaaGreat

/- spec.l16Put, l16Has. -/
namespace Go.Proofs.YtfcbhfjomgopbaaGreat
open Go Go.RowKit
section
attribute [local irreducible] Run CondV ag aO
end

end Go.Proofs.YtfcbhfjomgopbaaGreat

/- spec.l16Has, l16Match, l16Full. -/
namespace Go.Proofs.YtfcbhfjomgopbaaGreat
open Go Go.RowKit
def IX:T:=.mk 0 0 ⟨#[]⟩ []
theorem RdT.zero (S:al):RdT S jE IX:=RdT.iff.2 ⟨_,rfl,by simp [inI,T.kind,IX],by simp [inI,T.n,IX],by rw [IX,T.name]; decide +kernel,none,0,rfl,Nat.le_refl _,Nat.zero_le _,.inl rfl⟩
/- what is known, as a row of optional terms -/
def KRel (S:al) (cs:List Value) (o:Option T):Prop:=cs.length=4/\(o=none->cs=jE)/\∀ t,o=some t->RdT S cs t
theorem KRel.one {S:al} {cs:List Value} {o:Option T} (h:KRel S cs o):∀ u∈cs,u.oneCell'=true:=by
 cases o with
 | none=>rw [h.2.1 rfl]; simp [jE,Value.oneCell']
 | some t=>exact (h.2.2 t rfl).one
theorem KnownC.rd {S:al} {kb kp:Nat} {kc:Array Value} {st:bf} {E:TypeId} (hS:S kb=some (.cells kc E)) (h:KnownC S kc st) (hst:st.length=26) (hkp:26<=kp) (hkm:kp<=maxLen):RdSl S 4 (KRel S) (kvn kb kp) st:=by
 refine ⟨some ⟨kb,0,none⟩,kp,by rw [hst],by omega,hkm,.inr ⟨kb,0,kc,E,(0,0),rfl,hS,fun i hi=>?_⟩⟩
 obtain ⟨h1,h2⟩:=h.2 i hi
 rw [Nat.zero_add]
 refine ⟨?_,h1,h2⟩
 have:=h.1
 rw [bm,List.length_take,List.length_drop,Array.length_toList]
 omega
section
attribute [local irreducible] Run CondV ag aO
theorem KnownC.mono {S S':al} {kc:Array Value} {st:bf} (h:KnownC S kc st) (hs:Sle S S'):KnownC S' kc st:=
 ⟨h.1,fun i hi=>⟨(h.2 i hi).1,fun t ht=>((h.2 i hi).2 t ht).mono hs⟩⟩
end

end Go.Proofs.YtfcbhfjomgopbaaGreat

/- impl.mapVars with a function that only reads: the result is published. -/
namespace Go.Proofs.YtfcbhfjomgopbaaGreat
open Go Go.RowKit
/- a function from numbers to terms that only reads -/
def Fun (f:FuncId) (cap:List Value) (S:al) (φ:Int->T):Prop:=∀ S',Sle S S'->∀ n:Int,0<=n->n<=25->∃ cs,RdT S' cs (φ n)/\Pure Tryz.prog f (.int .i64 n::cap) S' (.agg cs.toArray)
theorem Fun.mono {f:FuncId} {cap:List Value} {S S':al} {φ:Int->T} (h:Fun f cap S φ) (hs:Sle S S'):Fun f cap S' φ:=fun S2 h2=>h S2 (hs.trans h2)
section
attribute [local irreducible] Run CondV ag aO
end

end Go.Proofs.YtfcbhfjomgopbaaGreat

/- impl.resolvent. -/
namespace Go.Proofs.YtfcbhfjomgopbaaGreat
open Go Go.RowKit
section
attribute [local irreducible] Run CondV ag aO
theorem KnownM.none (S:al) (N:Nat):KnownM S #[] (List.replicate N Option.none):=by
 refine ⟨fun e he=>by simp at he,fun n t h=>?_,by simp⟩
 have:=List.mem_of_getElem? h
 simp at this
end

end Go.Proofs.YtfcbhfjomgopbaaGreat

/- CallBuiltin on both sides: whether a goal holds without binding anything. -/
namespace Go.Proofs.YtfcbhfjomgopbaaGreat
open Go Go.RowKit
def Om:bf:=List.replicate 26 none
theorem JG (N:Nat):Good N (List.replicate N none):=⟨by simp,fun t ht=>by simp at ht,fun t ht=>by simp at ht,fun n=>n,fun n u hu=>by
 have:=List.mem_of_getElem? hu
 simp at this⟩
theorem KnU.zero (z:Array Value) (hz:z=#[.int .i64 0,.int .i64 0,.string ⟨#[]⟩,.slice none 0 0]) (S:al) (N:Nat):KnU S ((Array.range (N * 4)).map (z[· % z.size]!)) (List.replicate N none):=by
 subst hz
 refine ⟨by simp,fun i hi=>⟨fun _=>?_,fun t ht=>?_⟩⟩
 ·simp only [List.length_replicate] at hi
  apply List.ext_getElem?
  intro j
  rw [bm,List.getElem?_take]
  match j with
  | 0|1|2|3=>
   rw [if_pos (by omega),List.getElem?_drop,Array.getElem?_toList,Array.getElem?_map,Array.getElem?_range,if_pos (by omega)]
   simp only [Option.map_some,List.size_toArray,List.length_cons,List.length_nil]
   first
    | rw [show (i * 4+0) % 4=0 by omega]; rfl
    | rw [show (i * 4+1) % 4=1 by omega]; rfl
    | rw [show (i * 4+2) % 4=2 by omega]; rfl
    | rw [show (i * 4+3) % 4=3 by omega]; rfl
  | j+4=>
   rw [if_neg (by omega)]
   rfl
 ·have e:(List.replicate N (none:Option T))[i]=none:=by simp
  rw [e] at ht
  cases ht
def N2 (code:Int) (st:bf):Bool:=decide (code=0) && st.all Option.isNone
section
variable {w:World} {K:Value->World->Prop}
attribute [local irreducible] Run CondV ag aO
end
end Go.Proofs.YtfcbhfjomgopbaaGreat
