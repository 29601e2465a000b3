/- spec.l4MutateAll, l4Texts, l4Program, l4Clause, l14Two. -/
import Derived.Test.YtfcbhfjomgopbaaGreatZFu16
import Derived.Test.YtfcbhfjomgopbaaGreatZFu9
import Derived.Test.YtfcbhfjomgopbaaGreatZFu7
import Derived.Test.YtfcbhfjomgopbaaGreatZFu4
import Derived.Test.YtfcbhfjomgopbaaGreatZFu3
import Derived.Test.YtfcbhfjomgopbaaGreatZFu5
import Derived.Test.YtfcbhfjomgopbaaGreatZFu15
namespace Go.Proofs.YtfcbhfjomgopbaaGreat
section
open Go Go.RowKit
def Light (n m:Nat) (q:List C):Prop:=q.length<=n/\∀ c∈q,wC c<=m
theorem Light.le {n m:Nat} {q:List C} (h:Light n m q):q.length+wP q<=n+n * m:=by
 have:∀ q:List C,(∀ c∈q,wC c<=m)->wP q<=q.length * m:=by
  intro q
  induction q with
  | nil=>intro _; simp [wP]
  | cons c q ih=>
   intro h
   have h1:=h c (List.mem_cons_self ..)
   have h2:=ih fun d hd=>h d (List.mem_cons_of_mem _ hd)
   simp only [wP,List.length_cons,Nat.succ_mul]
   omega
 have h1:=this q h.2
 have h2:q.length * m<=n * m:=Nat.mul_le_mul_right _ h.1
 have:=h.1
 omega
theorem Light.append {n n' m:Nat} {q q':List C} (h:Light n m q) (h':Light n' m q'):Light (n+n') m (q++q'):=
 ⟨by rw [List.length_append]; exact Nat.add_le_add h.1 h'.1,fun c hc=>(List.mem_append.1 hc).elim (h.2 c) (h'.2 c)⟩
abbrev Sr (br:Nat) (sl:Value) (p k n m:Nat):Value->List Item->ae->Prop:=fun v I' S'=>∃ p',p'<=p+k/\I'=[rdI br sl p']/\∃ q,RdSl S' 5 (RdC S') v q/\Light n m q
section
variable {w0 w:World} {X:List Nat} {L A:List Item} {S:ae}
theorem qA {v:Value} {css:List (List Value)} {q:List C} (hI:Inv w0 X (aK v aw 5 css::A) S w) (hR:Rows 5 (RdC S) css q) :
  ∃ S',Ext w0.heap.size X S S'/\Inv w0 X A S' w/\RdSl S' 5 (RdC S') v q:=by
 have hI:Inv w0 X (A++[aK v aw 5 css]) S w:=hI.last 0 rfl
 obtain ⟨S',hE,hrd,hI⟩:=Inv.lendExt hI
 exact ⟨S',hE,hI,RowRd.rows (hR.monoR fun _ _ h=>RdC.mono hE.1 h) hrd⟩
end
section
variable {br:Nat} {sl:Value} {ys:List Nat}
attribute [local irreducible] Run CondV aB aS
theorem Tq:wC ⟨.mk 3 0 ⟨#[122]⟩ [],[]⟩=1:=by
 have e:(ByteArray.mk #[122]).size=1:=rfl
 simp only [wC,wT,wL,List.length_nil,e]
theorem uI {p m:Nat} {S:ae} {v:Value} {q:List C} (hrd:RdSl S 1 iR sl ys) (h:RdSl S 5 (RdC S) v q) (hq:Light 30 m q) (h0:0<q.length) (hm:m<=2000) (hp:p<=50000000) :
  Tri Tryz.prog Au [rdP br,v] [rdI br sl p] S (Sr br sl p 20000 30 (m+700)):=by
 intro w hI
 refine mU.2 ?_
 dsimp only[mU,aW]
 have hql:=hq.1
 refine dD hI hY fun v0 w' hI=>?_
 have hI:Inv w [br] [aK v0 aw 5 [],rdI br sl p] S w':=hI.last 0 rfl
 refine ⟨fun a b w'=>∃ (j p1:Nat) (S1:ae) (css:List (List Value)) (q1:List C),a=.int .i64 (j:Int)/\j<=q.length/\q1.length=j/\p1<=p+600 * j/\Ext w.heap.size [br] S S1/\Rows 5 (RdC S1) css q1/\(∀ c∈q1,wC c<=m+700)/\Inv w [br] [aK b aw 5 css,rdI br sl p1] S1 w',
  fun a _ _=>q.length - (intOf a).toNat,⟨0,p,S,[],[],rfl,Nat.zero_le _,rfl,by omega,Ext.refl _ _ _,Rows.nil _ _,by simp,hI⟩,?_⟩
 intro t6 _ _ t5 _ _ _ _ _ _ _ _ _ _ _ _ _ w'
 rintro ⟨j,p1,S1,css,q1,rfl,hj,hq1,hp1,hE1,hR,hqw,hI⟩
 have hcl:=hR.hc
 have h':=h.monoC hE1.1
 refine aC h' bL ?_
 refine bq ?_
 refine aI (fun hjl=>?_) (fun hjl=>?_)
 ·have hj':j<q.length:=by omega
  refine bY hI h' bL bo hj' (fun _ _=>RdC.length) fun cs hcs=>?_
  have hwc:=hq.2 _ (List.getElem_mem hj')
  refine Run.callL EE Ei hI (Cq (p:=p1) (hrd.monoU hE1.1) hcs (by omega) (by omega)) rfl fun v' I' S2 w'=>?_
  rintro ⟨p2,hp2,rfl,ds,d,rfl,hds,hwd⟩ hE2 hI
  refine dZ (css:=css) hI 0 _ hY (by omega) (by omega) rfl hds.length hds.one (by omega) (by omega) fun v' w' hI=>?_
  refine bl (by omega) ?_
  have hpn:p2<=p+600 * (j+1):=Nat.le_trans hp2 (Nat.le_trans (Nat.add_le_add_right hp1 600) (by rw [Nat.mul_add,Nat.add_assoc]; exact Nat.le_refl _))
  exact ⟨⟨j+1,p2,S2,_,q1++[d],rfl,hj',by simp only [List.length_append,hq1,List.length_cons,List.length_nil,Nat.zero_add],hpn,hE1.trans hE2,(hR.monoR fun _ _ h=>RdC.mono hE2.1 h).snoc hds hds.length,fun c hc=>(List.mem_append.1 hc).elim (hqw c) (fun hc=>by simp only [List.mem_singleton] at hc; subst hc; omega),hI⟩,
   by simp only [intOf,Int.toNat_natCast]; omega⟩
 refine ⟨fun v w'=>∃ (p1:Nat) (S1:ae) (q1:List C),p1<=p+20000/\Ext w.heap.size [br] S S1/\RdSl S1 5 (RdC S1) v q1/\Light 30 (m+700) q1/\Inv w [br] [rdI br sl p1] S1 w',?_,?_⟩
 ·refine Run.callL bP bN hI (cY (n:=30) (hrd.monoU hE1.1) (by omega) (by omega)) rfl fun v' I' S1 w'=>?_
  rintro ⟨rfl,rfl,kk,hkk,rfl⟩ _ hI
  have hI:Inv w [br] [aK t5 aw 5 css,rdI br sl (p1+1)] S1 w':=hI
  refine aZ ?_
  refine aI (fun _=>?_) (fun _=>?_)
  ·refine ⟨fun b w'=>∃ (S2:ae) (css:List (List Value)) (q1:List C),q1.length<=30/\Ext w.heap.size [br] S S2/\Rows 5 (RdC S2) css q1/\(∀ c∈q1,wC c<=m+700)/\Inv w [br] [aK b aw 5 css,rdI br sl (p1+1)] S2 w',
    fun b _=>30 - lenOf b,⟨S1,css,q1,by omega,hE1,hR,hqw,hI⟩,?_⟩
   intro t5 _ _ _ _ _ _ _ _ w'
   rintro ⟨S2,css,q1,hq1,hE2,hR,hqw,hI⟩
   have hlen:∀ {w':World} {S2:ae} {t5:Value} {css:List (List Value)} {q1:List C},Inv w [br] [aK t5 aw 5 css,rdI br sl (p1+1)] S2 w'->Rows 5 (RdC S2) css q1->∃ a m,t5=.slice a q1.length m:=by
    intro w' S2 t5 css q1 hI hR
    obtain ⟨_,_,_,a,m,e,_⟩:=qA hI hR
    exact ⟨a,m,e⟩
   obtain ⟨a1,m1,rfl⟩:=hlen hI hR
   have hcl:=hR.hc
   refine dK bL ?_
   refine eC ?_
   refine aI (fun hle=>?_) (fun hle=>?_)
   ·refine Run.call0E dr dv hI (dP ⟨#[122]⟩ (by decide) (jf S2) (by simp)) fun v' I' S3 w'=>?_
    rintro ⟨rfl,cs3,rfl,hcs3⟩ hE3 hI
    obtain ⟨k3,rfl,_,_,_,a3,q3,rfl,_⟩:=RdT.iff.1 hcs3
    refine mx ?_
    have hds:RdC S3 [.int .i64 3,.int .i64 0,.string ⟨#[122]⟩,.slice a3 0 q3,.slice none 0 0] ⟨.mk 3 0 ⟨#[122]⟩ [],[]⟩:=⟨[.int .i64 3,.int .i64 0,.string ⟨#[122]⟩,.slice a3 0 q3],_,rfl,hcs3,jf S3⟩
    refine dZ (css:=css) hI 0 [.int .i64 3,.int .i64 0,.string ⟨#[122]⟩,.slice a3 0 q3,.slice none 0 0] hY (by omega) (by omega) rfl rfl hds.one (by omega) (by omega) fun v' w' hI=>?_
    have hI:Inv w [br] [aK v' aw 5 (css++[_]),rdI br sl (p1+1)] S3 w':=hI
    have hR2:=(hR.monoR fun _ _ h=>RdC.mono hE3.1 h).snoc hds rfl
    obtain ⟨a2,m2,rfl⟩:=hlen hI hR2
    refine ⟨⟨S3,_,_,by rw [List.length_append]; simp only [List.length_cons,List.length_nil]; omega,hE2.trans hE3,hR2,fun c hc=>(List.mem_append.1 hc).elim (hqw c) (fun hc=>by simp only [List.mem_singleton] at hc; subst hc; rw [Tq]; omega),hI⟩,?_⟩
    simp only [lenOf,List.length_append,List.length_cons,List.length_nil]
    omega
   ·obtain ⟨S3,hE3,hI,hr⟩:=qA hI hR
    exact ⟨_,S3,q1,by omega,hE2.trans hE3,hr,⟨hq1,hqw⟩,hI⟩
  ·obtain ⟨S3,hE3,hI,hr⟩:=qA hI hR
   refine aZ ?_
   refine aI (fun _=>?_) (fun _=>?_)
   ·refine fZ (l:=1) bL hr (by omega) fun u hu=>?_
    exact ⟨_,S3,_,by omega,hE1.trans hE3,hu,⟨by rw [List.length_drop]; omega,fun c hc=>hqw c (List.mem_of_mem_drop hc)⟩,hI⟩
   ·exact ⟨_,S3,q1,by omega,hE1.trans hE3,hr,⟨by omega,hqw⟩,hI⟩
 intro _ _ _ _ t5 _ _ _ _ _ _ _ _ _ _ _ _ w'
 rintro ⟨p2,S2,q2,hp2,hE2,hr,hl,hI⟩
 exact ⟨_,_,S2,rfl,hI,hE2,p2,hp2,rfl,q2,hr,hl⟩
end
end
section
open Go Go.RowKit
def okS (s:ByteArray):Bool:=O8 (bs s) && decide (s.size<=1000)
theorem OY {s:ByteArray} (h:okS s=true):∃ q,Nc 60 (bs s)=some q/\0<q.length/\Light 8 200 q/\(∀ c∈q,cC c=true)/\s.size<=1000:=by
 rw [okS,Bool.and_eq_true,decide_eq_true_eq] at h
 obtain ⟨h,hs⟩:=h
 unfold O8 at h
 split at h
 ·rename_i q hq
  simp only [Bool.and_eq_true,decide_eq_true_eq,List.all_eq_true] at h
  exact ⟨q,hq,h.1,⟨h.2.1,fun c hc=>(h.2.2 c hc).2⟩,fun c hc=>(h.2.2 c hc).1,hs⟩
 ·cases h
section
attribute [local irreducible] Run CondV aB aS
theorem Ff {S:ae} {s:ByteArray} (h:okS s=true):Tri Tryz.prog nJ [.string s] [] S fun v I' S'=>∃ u css q,v=.tuple #[u,.bool true]/\I'=[aK u aw 5 css]/\Rows 5 (RdC S') css q/\0<q.length/\Light 8 200 q/\∀ c∈q,cC c=true:=by
 obtain ⟨q,hq,h0,hl,hc,hs⟩:=OY h
 intro w hI
 have hb:(bs s).length=s.size:=(kw (bs s)).symm
 refine (tT (f:=60) (by omega) hq (by rw [hb]; omega) w hI).mono ?_
 rintro e w' ⟨v,I',S',rfl,hI,hE,u,css,rfl,rfl,hR⟩
 exact ⟨_,_,S',rfl,hI,hE,u,css,q,rfl,rfl,hR,h0,hl,hc⟩
theorem sL (S:ae):Tri Tryz.prog Kr [] [] S fun v I' S'=>I'=[]/\∃ l,RdSl S' 1 oh v l/\l.length=11/\l.all okS=true:=by
 intro w hI
 refine uC.2 ?_
 dsimp only[uC,sk]
 refine fe hI (by kernel_rfl) rfl (by omega) fun v S1 w' hE1 hv hI=>?_
 exact ⟨_,[],S1,rfl,hI,hE1,rfl,_,hv,rfl,by decide +kernel⟩
variable {br:Nat} {sl:Value} {ys:List Nat}
end
end
section
open Go Go.RowKit
section
variable {br:Nat} {sl:Value} {ys:List Nat}
attribute [local irreducible] Run CondV aB aS
theorem O6:dW 2=54:=rfl
end
end
section
open Go Go.RowKit
attribute [local irreducible] Run CondV aB aS
end
section
open Go Go.RowKit
attribute [local irreducible] Run CondV aB aS

section
variable {P:Program} {w w0:World} {X:List Nat} {L:List Item} {S:ae} {K:Value->World->Prop}
end
end
section
open Go Go.RowKit
attribute [local irreducible] Run CondV aB aS
end
section
open Go Go.RowKit
attribute [local irreducible] Run CondV aB aS
end
section
open Go Go.RowKit
attribute [local irreducible] Run CondV aB aS
end
section
open Go Go.RowKit
attribute [local irreducible] Run CondV aB aS
end
section
open Go Go.ChangeShapes Go.WideShapes Go.ChangeAt Go.RowKit
section
attribute [local irreducible] Run CondV aB aS
end
theorem two {cs:List Value} (h:cs.length=2):∃ a b,cs=[a,b]:=by
 match cs,h with
 | [a,b],_=>exact ⟨a,b,rfl⟩
end
section
open Go Go.RowKit
section
variable {br:Nat} {sl:Value} {ys:List Nat}
attribute [local irreducible] Run CondV aB aS
theorem Pd.one (x:Pd):∀ u∈x.cells,u.oneCell'=true:=by
 intro u hu
 have hu':u∈([.string x.name,.int .i64 x.arity]:List Value):=hu
 simp at hu'
 rcases hu' with rfl|rfl <;> rfl
end
end
section
open Go Go.ChangeShapes Go.WideShapes Go.ChangeAt Go.RowKit
theorem TO:Tryz.prog.underlying HW=some (.int .u8):=by kernel_rfl
theorem Rx {H:Type} {enc:TypeId × Value->H} {W:World} {sp:Nat->Bool} {held:Bool} {fuel:Nat} {cs:List Value} {x:DataW H × List MemPlace} (h:DataW.trod enc Tryz.prog W 0 sp held fuel HW cs=some x) :
  ∃ n,iR cs n:=by
 cases fuel with
 | zero=>simp [DataW.trod] at h
 | succ n=>
  unfold DataW.trod at h
  rw [TO] at h
  split at h <;> simp_all
  rename_i k1 k2 m he
  subst he
  obtain ⟨⟨_,h⟩,_⟩:=h
  simp only [Lit.wf,Bool.and_eq_true,decide_eq_true_eq] at h
  have h1:0<=m/\m<=255:=h
  exact ⟨m.toNat,by rw [iR,Int.toNat_of_nonneg (by omega)]; exact ⟨rfl,by omega⟩⟩
theorem C6 {H:Type} {enc:TypeId × Value->H} {W:World} {sp:Nat->Bool} {held:Bool} {fuel:Nat} {v:Value} {x:DataW H × List MemPlace} (h:DataW.trod enc Tryz.prog W 0 sp held fuel IE [v]=some x) :
  ∃ ys,RdSl (Nx W) 1 iR v ys:=Qm dN (by omega) h fun _ _ _ _ hy=>Rx hy
section
variable {w0 w:World} {X:List Nat} {L:List Item} {S:ae} {K:Value->World->Prop}
attribute [local irreducible] Run CondV aB aS
theorem R0 {P:Program} {T:TypeId} {cx cy:Bool} {a b:Bool} (hu:P.underlying T=some .bool) (hk:K (.bool (a == b)) w):Run P (cS .eql T cx cy (.bool a) (.bool b)) w K:=
 Run.of (by
  have he:(Op.equal T (.bool a) (.bool b)).run P w=.ok (a == b) w:=by
   rw [Op.equal,Op.maxDepth,Op.equalIn.eq_def]
   simp [run_underlying hu]
  simp only [cS,binOp,Sem.run_bind,vw,Result.andThen_ok,he,Sem.run_pure]) hk
end
end
section
open Go Go.RowKit
def HP (a b:Int):Int:=if a.tmod b≠0/\(decide (a.tmod b<0) != decide (b<0))=true then a.tmod b+b else a.tmod b
def iP (n:Int):Int × Int:=if n < -999 ∨ 999<n then (0,5) else (n,0)
def opA (s:ByteArray) (a b:Int):Int × Int:=
 if s=⟨#[43]⟩ then iP (a+b)
 else if s=⟨#[45]⟩ then iP (a - b)
 else if s=⟨#[42]⟩ then iP (a * b)
 else if b=0 then (0,4)
 else if s=⟨#[109,111,100]⟩ then (HP a b,0)
 else (a.tdiv b,0)
def i5 (s:ByteArray):List (Int × Int)->Int × Int
 | [a,b]=>if cn s=1 ∨ cn s=2 then (if a.2≠0 then (0,a.2) else if b.2≠0 then (0,b.2) else opA s a.1 b.1) else (0,3)
 | _=>(0,3)
mutual
def cj:T->Int × Int
 | .mk k n s ks=>if k=1 then (0,2) else if k=2 then (n,0) else i5 s (dy ks)
def dy:List T->List (Int × Int)
 | []=>[]
 | t::ts=>cj t::dy ts
end
theorem Dk:∀ ts:List T,dy ts=ts.map cj
 | []=>rfl
 | t::ts=>by rw [dy,Dk ts,List.map_cons]
mutual
def okN:T->Prop
 | .mk k n _ ks=>(k=2->-999<=n/\n<=999)/\yy ks
def yy:List T->Prop
 | []=>True
 | t::ts=>okN t/\yy ts
end
theorem eT:∀ {ts:List T},yy ts->∀ t∈ts,okN t
 | t::ts,h,x,hx=>by
  rw [yy] at h
  rcases List.mem_cons.1 hx with rfl|hx
  ·exact h.1
  ·exact eT h.2 x hx
theorem okN.kids {t:T} (h:okN t):yy t.kids:=by cases t; rw [okN] at h; exact h.2
def Sm (n:Int):Prop:=-999<=n/\n<=999
theorem xY (n:Int):Sm (iP n).1:=by
 unfold iP Sm
 split
 ·simp
 ·simp only []; omega
theorem Hb {a b:Int} (ha:Sm a):Sm (a.tdiv b):=by
 unfold Sm at *
 have h1:(a.tdiv b).natAbs<=a.natAbs:=by
  rw [Int.natAbs_tdiv]
  exact Nat.div_le_self _ _
 omega
theorem He {a b:Int} (_:Sm b) (h0:b≠0):(a.tmod b).natAbs<b.natAbs:=by
 rw [Int.natAbs_tmod]
 exact Nat.mod_lt _ (by omega)
theorem M2 {a b:Int} (hb:Sm b) (h0:b≠0):Sm (HP a b):=by
 have h:=He (a:=a) hb h0
 unfold HP
 split
 ·rename_i h1
  obtain ⟨h1,h2⟩:=h1
  unfold Sm at *
  by_cases h3:a.tmod b<0
  ·by_cases h4:b<0
   ·simp [h3,h4] at h2
   ·omega
  ·by_cases h4:b<0
   ·omega
   ·simp [h3,h4] at h2
 ·unfold Sm at *; omega
theorem Sj {s:ByteArray} {a b:Int} (ha:Sm a) (hb:Sm b):Sm (opA s a b).1:=by
 unfold opA
 split
 ·exact xY _
 split
 ·exact xY _
 split
 ·exact xY _
 split
 ·simp [Sm]
 split
 ·rename_i h0 _; exact M2 hb h0
 ·exact Hb ha
theorem lh:∀ t:T,okN t->Sm (cj t).1:=by
 refine T.ind fun k n s ks ih h=>?_
 rw [okN] at h
 rw [cj]
 split
 ·simp [Sm]
 split
 ·rename_i hk; exact h.1 hk
 rw [Dk]
 match ks,ih,h.2 with
 | [],_,_=>simp [i5,Sm]
 | [x],_,_=>simp [i5,Sm]
 | [x,y],ih,h2=>
  have hx:=ih x (by simp) (eT h2 x (by simp))
  have hy:=ih y (by simp) (eT h2 y (by simp))
  simp only [List.map_cons,List.map_nil,i5]
  split
  ·split
   ·simp [Sm]
   ·split
    ·simp [Sm]
    ·exact Sj hx hy
  ·simp [Sm]
 | _::_::_::_,_,_=>simp [i5,Sm]
theorem Cs {x b:Int} (h:x.natAbs<b.natAbs):x.tmod b=x:=by
 have h1:=Int.tmod_add_mul_tdiv x b
 have h2:(x.tdiv b).natAbs=0:=by rw [Int.natAbs_tdiv]; exact Nat.div_eq_of_lt h
 have h3:x.tdiv b=0:=by omega
 rw [h3] at h1
 simpa using h1
theorem Kv {m b:Int} (h0:0<=m) (h:m<b):(m+b).tmod b=m:=by
 rw [Int.tmod_eq_emod_of_nonneg (by omega),Int.add_emod_right,Int.emod_eq_of_lt h0 h]
theorem NP {m b:Int} (h0:m<=0) (h:b<m):(m+b).tmod b=m:=by
 have h1:=Kv (m:=-m) (b:=-b) (by omega) (by omega)
 rw [Int.tmod_neg,show -m+-b=-(m+b) by omega,Int.neg_tmod] at h1
 omega
theorem Rn {a b:Int} (h0:b≠0):(a.tmod b+b).tmod b=HP a b:=by
 have hlt:(a.tmod b).natAbs<b.natAbs:=by
  rw [Int.natAbs_tmod]
  exact Nat.mod_lt _ (by omega)
 obtain ⟨m,hm⟩:∃ m,m=a.tmod b:=⟨_,rfl⟩
 unfold HP
 rw [<- hm] at hlt ⊢
 by_cases h3:m<0
 ·by_cases h4:b<0
  ·rw [if_neg (by simp [h3,h4]),NP (by omega) (by omega)]
  ·rw [if_pos (by simp [h3,h4]; omega),Cs (by omega)]
 ·by_cases h4:b<0
  ·by_cases h5:m=0
   ·subst h5; simp
   ·rw [if_pos (by simp [h3,h4,h5]),Cs (by omega)]
  ·rw [if_neg (by simp [h3,h4]),Kv (by omega) (by omega)]
def ij (s:ByteArray) (a b:Int):Bool:=
 if s=⟨#[60]⟩ then decide (a<b)
 else if s=⟨#[62]⟩ then decide (b<a)
 else if s=⟨#[61,60]⟩ then decide (a<=b)
 else if s=⟨#[62,61]⟩ then decide (b<=a)
 else decide (a=b)
def dY (b:Bool):Int:=if b=true then 0 else 1
def MJ (s:ByteArray):List (Int × Int)->Int
 | [a,b]=>if a.2≠0 then a.2 else if b.2≠0 then b.2 else dY (ij s a.1 b.1)
 | _=>0
def dL:List ByteArray:=[⟨#[60]⟩,⟨#[62]⟩,⟨#[61,60]⟩,⟨#[62,61]⟩,⟨#[61,58,61]⟩]
abbrev QL (p:Int × Int):Value:=.tuple #[.int .i64 p.1,.int .i64 p.2]
theorem Kc (s:ByteArray) (l:List ByteArray):(l.any fun x=>decide (x=s))=cM s l:=by
 rw [cM]
 congr 1
 funext x
 rw [decide_eq_decide]
 exact eq_comm
theorem jR {l:List T} (h:l.length=2):∃ x y,l=[x,y]:=by
 match l,h with
 | [x,y],_=>exact ⟨x,y,rfl⟩
theorem Oc (n:Int):iP n=if (decide (-999<=n) && decide (n<=999))=true then (n,0) else (0,5):=by
 unfold iP
 by_cases h:n < -999 ∨ 999<n
 ·rw [if_pos h,if_neg (by simp; omega)]
 ·rw [if_neg h,if_pos (by simp; omega)]
theorem PQ {n:Int} (h:Sm n):iP n=(n,0):=by
 unfold iP Sm at *
 rw [if_neg (by omega)]
section
attribute [local irreducible] Run CondV aB aS
theorem i6 (n:Int) (S:ae):Pure Tryz.prog Hl [.int .i64 n] S (QL (iP n)):=by
 intro w hI
 refine tm.2 ?_
 dsimp only[tm,aL]
 refine ⟨fun t w'=>t=.bool (decide (n < -999 ∨ 999<n))/\Inv w [] [] S w',?_,?_⟩
 ·refine bq ?_
  refine uG (fun h=>⟨?_,hI⟩) (fun h=>?_)
  ·rw [decide_eq_true (.inl (of_decide_eq_true h))]
  ·refine dl ?_
   refine nt h ⟨?_,hI⟩
   have h:=of_decide_eq_false h
   rw [Value.bool.injEq,decide_eq_decide]
   omega
 intro q _ _ _ _ _ w'
 rintro ⟨rfl,hI⟩
 refine aI (fun h=>done hI ?_) (fun h=>done hI ?_)
 ·rw [iP,if_pos h]
 ·rw [iP,if_neg h]
theorem DX (a b:Int) (h0:b≠0) (hb:Sm b) (S:ae):Pure Tryz.prog N7 [.int .i64 a,.int .i64 b] S (.int .i64 (HP a b)):=by
 intro w hI
 have hm:=He (a:=a) hb h0
 unfold Sm at hb
 refine Cf.2 ?_
 dsimp only[Cf,aW]
 refine OO h0 ?_
 refine ⟨fun t w'=>t=.int .i64 (HP a b)/\Inv w [] [] S w',?_,?_⟩
 ·refine ⟨fun t w'=>t=.bool (decide (a.tmod b≠0/\(decide (a.tmod b<0) != decide (b<0))=true))/\Inv w [] [] S w',?_,?_⟩
  ·refine cD ?_
   refine iL (fun h=>?_) (fun h=>⟨?_,hI⟩)
   ·refine bq ?_
    refine bq ?_
    refine ME ry ?_
    refine gq h ⟨?_,hI⟩
    simp at h
    rw [Value.bool.injEq]
    by_cases h1:a.tmod b<0 <;> by_cases h2:b<0 <;> simp [h,h1,h2]
   ·simp at h; simp [h]
  intro q _ _ _ _ _ _ _ _ w'
  rintro ⟨rfl,hI⟩
  refine aI (fun h=>?_) (fun h=>?_)
  ·refine bl (by omega) ?_
   exact ⟨by rw [HP,if_pos h],hI⟩
  ·exact ⟨by rw [HP,if_neg h],hI⟩
 intro q _ _ _ _ _ _ _ _ _ _ _ _ w'
 rintro ⟨rfl,hI⟩
 exact done hI rfl
theorem DB (a b:Int) (h0:b≠0) (ha:Sm a) (S:ae):Pure Tryz.prog Og [.int .i64 a,.int .i64 b] S (.int .i64 (a.tdiv b)):=by
 intro w hI
 have:=Hb (b:=b) ha
 unfold Sm at this
 refine Bi.2 ?_
 dsimp only[Bi,aW]
 refine RP h0 (by omega) ?_
 exact done hI rfl
theorem P6 {a b:Int} (ha:Sm a) (hb:Sm b):-998001<=a * b/\a * b<=998001:=by
 unfold Sm at *
 have h1:(a * b).natAbs=a.natAbs * b.natAbs:=Int.natAbs_mul a b
 have h2:a.natAbs * b.natAbs<=999 * 999:=Nat.mul_le_mul (by omega) (by omega)
 omega
theorem H0 (s:ByteArray) (a b:Int) (ha:Sm a) (hb:Sm b) (S:ae):Pure Tryz.prog Pw [.string s,.int .i64 a,.int .i64 b] S (QL (opA s a b)):=by
 intro w hI
 have ha':=ha
 have hb':=hb
 have hmul:=P6 ha hb
 unfold Sm at ha hb
 refine EV.2 ?_
 dsimp only[EV,cW]
 refine bg ?_
 refine aI (fun h=>?_) (fun h1=>?_)
 ·refine bl (by omega) ?_
  refine Run.callPure mT mG hI (i6 _ S) fun w' hI=>?_
  refine aj (v:=.int .i64 _) rfl ?_
  refine aj (v:=.int .i64 _) rfl ?_
  exact done hI (by rw [opA,if_pos h])
 refine bg ?_
 refine aI (fun h=>?_) (fun h2=>?_)
 ·refine hK (by omega) ?_
  refine Run.callPure mT mG hI (i6 _ S) fun w' hI=>?_
  refine aj (v:=.int .i64 _) rfl ?_
  refine aj (v:=.int .i64 _) rfl ?_
  exact done hI (by rw [opA,if_neg h1,if_pos h])
 refine bg ?_
 refine aI (fun h=>?_) (fun h3=>?_)
 ·refine y0 (by omega) ?_
  refine Run.callPure mT mG hI (i6 _ S) fun w' hI=>?_
  refine aj (v:=.int .i64 _) rfl ?_
  refine aj (v:=.int .i64 _) rfl ?_
  exact done hI (by rw [opA,if_neg h1,if_neg h2,if_pos h])
 refine aZ ?_
 refine aI (fun h=>?_) (fun h4=>?_)
 ·exact done hI (by rw [opA,if_neg h1,if_neg h2,if_neg h3,if_pos h])
 refine bg ?_
 refine aI (fun h=>?_) (fun h5=>?_)
 ·refine Run.callPure K9 LO hI (DX _ _ h4 hb' S) fun w' hI=>?_
  exact done hI (by rw [opA,if_neg h1,if_neg h2,if_neg h3,if_neg h4,if_pos h])
 ·refine Run.callPure L0 MU hI (DB _ _ h4 ha' S) fun w' hI=>?_
  exact done hI (by rw [opA,if_neg h1,if_neg h2,if_neg h3,if_neg h4,if_neg h5])
theorem dc (b:Bool) (S:ae):Pure Tryz.prog Lh [.bool b] S (.int .i64 (dY b)):=by
 intro w hI
 refine zO.2 ?_
 dsimp only[zO,aL]
 refine az (fun h=>done hI ?_) (fun h=>done hI ?_) <;> rw [h] <;> rfl
theorem dB (b:Bool) (S:ae):Pure Tryz.prog n_i_holds [.bool b] S (.int .i64 (dY b)):=by
 intro w hI
 refine sh_i_holds.2 ?_
 dsimp only[sh_i_holds,aL]
 refine az (fun h=>done hI ?_) (fun h=>done hI ?_) <;> rw [h] <;> rfl
theorem Ai (s:ByteArray) (a b:Int) (S:ae):Pure Tryz.prog JO [.string s,.int .i64 a,.int .i64 b] S (.bool (ij s a b)):=by
 intro w hI
 refine vM.2 ?_
 dsimp only[vM,cW]
 refine bg ?_
 refine aI (fun h=>bq (done hI (by rw [ij,if_pos h]))) (fun h1=>?_)
 refine bg ?_
 refine aI (fun h=>dl (done hI (by rw [ij,if_neg h1,if_pos h]))) (fun h2=>?_)
 refine bg ?_
 refine aI (fun h=>eC (done hI (by rw [ij,if_neg h1,if_neg h2,if_pos h]))) (fun h3=>?_)
 refine bg ?_
 refine aI (fun h=>fw (done hI (by rw [ij,if_neg h1,if_neg h2,if_neg h3,if_pos h]))) (fun h4=>?_)
 exact aZ (done hI (by rw [ij,if_neg h1,if_neg h2,if_neg h3,if_neg h4]))
theorem uh (s:ByteArray) (S:ae):Pure Tryz.prog CC [.string s] S (.bool (cM s dL)):=by
 intro w hI
 refine pg.2 ?_
 dsimp only[pg,aL]
 refine bg ?_
 refine uG (fun h=>?_) (fun h1=>?_)
 ·refine rpG ?_
  exact done hI (by simp only [cM,dL,List.any_cons,h,Bool.true_or])
 refine bg ?_
 refine nt h1 ?_
 refine uG (fun h=>?_) (fun h2=>?_)
 ·refine rpG ?_
  exact done hI (by simp only [cM,dL,List.any_cons,h,Bool.true_or,Bool.or_true])
 refine bg ?_
 refine nt h2 ?_
 refine uG (fun h=>?_) (fun h3=>?_)
 ·refine rpG ?_
  exact done hI (by simp only [cM,dL,List.any_cons,h,Bool.true_or,Bool.or_true])
 refine bg ?_
 refine nt h3 ?_
 refine uG (fun h=>?_) (fun h4=>?_)
 ·refine rpG ?_
  exact done hI (by simp only [cM,dL,List.any_cons,h,Bool.true_or,Bool.or_true])
 refine bg ?_
 refine nt h4 ?_
 exact done hI (by simp only [cM,dL,List.any_cons,List.any_nil,h1,h2,h3,h4,Bool.false_or,Bool.or_false])
theorem jU:∀ (t:T) (S:ae) (cs:List Value),RdT S cs t->okN t->Pure Tryz.prog JQ [.agg cs.toArray] S (QL (cj t)):=by
 refine T.ind fun k n s ks ih S cs h hn=>?_
 intro w hI
 obtain ⟨kv,rfl,_,_,_,hks⟩:=RdT.iff.1 h
 rw [okN] at hn
 simp only [T.name,T.kids,T.kind,T.n] at hks ⊢
 refine vW.2 ?_
 dsimp only[vW,aL]
 refine bf hI fun b1 w' hI=>?_
 refine ad hI 0 rfl aE av rfl ?_
 refine aZ ?_
 refine aI (fun h1=>done hI (by rw [cj,if_pos h1])) (fun h1=>?_)
 refine aZ ?_
 refine aI (fun h2=>?_) (fun h2=>?_)
 ·refine ad (u:=.int .i64 n) hI 0 rfl aM av rfl ?_
  exact done hI (by rw [cj,if_neg h1,if_pos h2])
 have e0:cj (.mk k n s ks)=i5 s (dy ks):=by rw [cj,if_neg h1,if_neg h2]
 rw [e0]
 refine ad hI 0 rfl aO aJ rfl ?_
 refine Run.callPure eH eJ hI (dI s S) fun w' hI=>?_
 refine ⟨fun t w'=>t=.bool (!(decide (ks.length=2) && (decide (cn s=1) || decide (cn s=2))))/\Inv w [] [.blk b1 (.cells #[.int .i64 k,.int .i64 n,.string s,kv] ab)] S w',?_,?_⟩
 ·refine ad hI 0 rfl al ah rfl ?_
  refine aC hks af ?_
  refine cD ?_
  have el:decide ((ks.length:Int)=2)=decide (ks.length=2):=by rw [decide_eq_decide]; omega
  rw [el]
  cases hl:decide (ks.length=2)
  ·refine rpG ?_
   exact ⟨rfl,hI⟩
  refine rpG ?_
  refine cD ?_
  cases h3:decide (cn s=1)
  ·refine rpG ?_
   refine cD ?_
   refine rpG ?_
   exact ⟨rfl,hI⟩
  ·refine rpG ?_
   exact ⟨rfl,hI⟩
 intro q _ _ _ _ _ _ _ _ _ _ _ w'
 rintro ⟨rfl,hI⟩
 refine az (fun hc=>done hI ?_) (fun hc=>?_)
 ·match ks,hc with
  | [],_|[_],_|_::_::_::_,_=>rfl
  | [x,y],hc=>
   simp at hc
   rw [dy,dy,dy,i5,if_neg (by omega)]
 simp only [Bool.not_eq_false',Bool.and_eq_true,Bool.or_eq_true,decide_eq_true_eq] at hc
 obtain ⟨hl,hv⟩:=hc
 obtain ⟨x,y,rfl⟩:=jR hl
 have e1:i5 s (dy [x,y])=if (cj x).2≠0 then (0,(cj x).2) else if (cj y).2≠0 then (0,(cj y).2) else opA s (cj x).1 (cj y).1:=by
  rw [dy,dy,dy,i5,if_pos hv]
 rw [e1]
 have nx:=eT hn.2 x (by simp)
 have ny:=eT hn.2 y (by simp)
 refine ad hI 0 rfl al ah rfl ?_
 refine bY (i:=0) hI hks af ac (by simp) (fun _ _=>RdT.length) fun cs' hcs'=>?_
 refine Run.callPure iu ic hI (ih x (by simp) S cs' hcs' nx) fun w' hI=>?_
 refine aj (v:=.int .i64 _) rfl ?_
 refine aj (v:=.int .i64 _) rfl ?_
 refine cD ?_
 refine az (fun h5=>done hI ?_) (fun h5=>?_)
 ·simp at h5
  rw [if_pos h5]
 simp at h5
 rw [if_neg (by simp [h5])]
 refine ad hI 0 rfl al ah rfl ?_
 refine bY (i:=1) hI hks af ac (by simp) (fun _ _=>RdT.length) fun cs' hcs'=>?_
 refine Run.callPure iu ic hI (ih y (by simp) S cs' hcs' ny) fun w' hI=>?_
 refine aj (v:=.int .i64 _) rfl ?_
 refine aj (v:=.int .i64 _) rfl ?_
 refine cD ?_
 refine az (fun h6=>done hI ?_) (fun h6=>?_)
 ·simp at h6
  rw [if_pos h6]
 simp at h6
 rw [if_neg (by simp [h6])]
 refine ad hI 0 rfl aO aJ rfl ?_
 refine Run.callPure Od NO hI (H0 s _ _ (lh _ nx) (lh _ ny) S) fun w' hI=>?_
 refine aj (v:=.int .i64 _) rfl ?_
 refine aj (v:=.int .i64 _) rfl ?_
 exact done hI rfl
theorem vi {s:ByteArray} {k n:Int} {ks:List T} {S:ae} {cs:List Value} (h:RdT S cs (.mk k n s ks)) (hl:ks.length=2) (hn:yy ks):Pure Tryz.prog Eg [.agg cs.toArray] S (.int .i64 (MJ s (dy ks))):=by
 intro w hI
 obtain ⟨kv,rfl,_,_,_,hks⟩:=RdT.iff.1 h
 simp only [T.name,T.kids,T.kind,T.n] at hks ⊢
 obtain ⟨x,y,rfl⟩:=jR hl
 have nx:=eT hn x (by simp)
 have ny:=eT hn y (by simp)
 rw [dy,dy,dy,MJ]
 refine qN.2 ?_
 dsimp only[qN,aL]
 refine bf hI fun b1 w' hI=>?_
 refine ad hI 0 rfl al ah rfl ?_
 refine bY (i:=0) hI hks af ac (by simp) (fun _ _=>RdT.length) fun cs' hcs'=>?_
 refine Run.callPure iu ic hI (jU x S cs' hcs' nx) fun w' hI=>?_
 refine aj (v:=.int .i64 _) rfl ?_
 refine aj (v:=.int .i64 _) rfl ?_
 refine cD ?_
 refine az (fun h5=>done hI ?_) (fun h5=>?_)
 ·simp at h5
  rw [if_pos h5]
 simp at h5
 rw [if_neg (by simp [h5])]
 refine ad hI 0 rfl al ah rfl ?_
 refine bY (i:=1) hI hks af ac (by simp) (fun _ _=>RdT.length) fun cs' hcs'=>?_
 refine Run.callPure iu ic hI (jU y S cs' hcs' ny) fun w' hI=>?_
 refine aj (v:=.int .i64 _) rfl ?_
 refine aj (v:=.int .i64 _) rfl ?_
 refine cD ?_
 refine az (fun h6=>done hI ?_) (fun h6=>?_)
 ·simp at h6
  rw [if_pos h6]
 simp at h6
 rw [if_neg (by simp [h6])]
 refine ad hI 0 rfl aO aJ rfl ?_
 refine Run.callPure GQ Ge hI (Ai s _ _ S) fun w' hI=>?_
 refine Run.callPure dV dU hI (dc _ S) fun w' hI=>?_
 exact done hI rfl
theorem mK:∀ (t:T) (S:ae) (cs:List Value),RdT S cs t->okN t->Pure Tryz.prog NL [.agg cs.toArray] S (QL (cj t)):=by
 refine T.ind fun k n s ks ih S0 cs h hn=>?_
 intro w hI
 obtain ⟨kv,rfl,_,_,_,hks⟩:=RdT.iff.1 h
 rw [okN] at hn
 simp only [T.name,T.kids,T.kind,T.n] at hks ⊢
 refine Cu.2 ?_
 dsimp only[Cu,aL]
 refine bf hI fun b1 w' hI=>?_
 refine ad hI 0 rfl aE av rfl ?_
 refine aZ ?_
 refine aI (fun h2=>?_) (fun h2=>?_)
 ·refine ad (u:=.int .i64 n) hI 0 rfl aM av rfl ?_
  exact done hI (by rw [cj,if_neg (by omega),if_pos h2])
 refine ad hI 0 rfl aE av rfl ?_
 refine aZ ?_
 refine aI (fun h1=>done hI (by rw [cj,if_pos h1])) (fun h1=>?_)
 have e0:cj (.mk k n s ks)=i5 s (dy ks):=by rw [cj,if_neg h1,if_neg h2]
 rw [e0]
 refine ⟨fun t w'=>t=.bool (!(decide (ks.length=2) && cM s (wH++l5)))/\∃ S,Sle S0 S/\Inv w [] [.blk b1 (.cells #[.int .i64 k,.int .i64 n,.string s,kv] ab)] S w',?_,?_⟩
 ·refine ad hI 0 rfl al ah rfl ?_
  refine aC hks af ?_
  refine cD ?_
  have el:decide ((ks.length:Int)=2)=decide (ks.length=2):=by rw [decide_eq_decide]; omega
  rw [el]
  cases hl:decide (ks.length=2)
  ·refine rpG ?_
   exact ⟨rfl,S0,Sle.refl _,hI⟩
  refine rpG ?_
  refine fe hI (by kernel_rfl) rfl (by omega) fun v S1 w' hE1 hv hI=>?_
  refine ad hI 0 rfl aO aJ rfl ?_
  refine Run.callPure gf gp hI (fM s hv) fun w' hI=>?_
  refine bK ?_
  refine rpG ?_
  refine ⟨?_,S1,hE1.1,hI⟩
  rw [Kc]
  rfl
 intro q _ _ _ _ _ _ _ _ _ _ _ w'
 rintro ⟨rfl,S,hle,hI⟩
 have hks:=hks.monoT hle
 have hlev:cM s (wH++l5)=true↔cn s=1 ∨ cn s=2:=by
  have e1:cM s (wH++l5)=(cM s wH || cM s l5):=by rw [cM,List.any_append]; rfl
  rw [e1]
  unfold cn
  have hex:cM s pz=true->cM s wH=false/\cM s l5=false:=by
   intro hc
   rw [cM,List.any_eq_true] at hc
   obtain ⟨x,hx,hd⟩:=hc
   have hd:=of_decide_eq_true hd
   subst hd
   simp only [pz,List.mem_cons,List.not_mem_nil,or_false] at hx
   rcases hx with rfl|rfl|rfl|rfl|rfl|rfl|rfl|rfl|rfl <;> exact ⟨by decide +kernel,by decide +kernel⟩
  cases hc:cM s pz
  ·cases hs:cM s wH <;> cases hp:cM s l5 <;> simp
  ·simp [hex hc]
 refine az (fun hc=>gi hI hle ?_) (fun hc=>?_)
 ·match ks,hc with
  | [],_|[_],_|_::_::_::_,_=>rfl
  | [x,y],hc=>
   have hc:cM s (wH++l5)=false:=by simpa using hc
   rw [dy,dy,dy,i5,if_neg (by rw [<- hlev,hc]; decide)]
 simp only [Bool.not_eq_false',Bool.and_eq_true,decide_eq_true_eq] at hc
 obtain ⟨hl,hv⟩:=hc
 rw [hlev] at hv
 obtain ⟨x,y,rfl⟩:=jR hl
 have e1:i5 s (dy [x,y])=if (cj x).2≠0 then (0,(cj x).2) else if (cj y).2≠0 then (0,(cj y).2) else opA s (cj x).1 (cj y).1:=by
  rw [dy,dy,dy,i5,if_pos hv]
 rw [e1]
 have nx:=eT hn.2 x (by simp)
 have ny:=eT hn.2 y (by simp)
 refine ad hI 0 rfl al ah rfl ?_
 refine bY (i:=0) hI hks af ac (by simp) (fun _ _=>RdT.length) fun cs' hcs'=>?_
 refine Run.callPure ly lx hI (ih x (by simp) S cs' hcs' nx) fun w' hI=>?_
 refine aj (v:=.int .i64 _) rfl ?_
 refine aj (v:=.int .i64 _) rfl ?_
 refine cD ?_
 refine az (fun h5=>gi hI hle ?_) (fun h5=>?_)
 ·simp at h5
  rw [if_pos h5]
 simp at h5
 rw [if_neg (by simp [h5])]
 refine ad hI 0 rfl al ah rfl ?_
 refine bY (i:=1) hI hks af ac (by simp) (fun _ _=>RdT.length) fun cs' hcs'=>?_
 refine Run.callPure ly lx hI (ih y (by simp) S cs' hcs' ny) fun w' hI=>?_
 refine aj (v:=.int .i64 _) rfl ?_
 refine aj (v:=.int .i64 _) rfl ?_
 refine cD ?_
 refine az (fun h6=>gi hI hle ?_) (fun h6=>?_)
 ·simp at h6
  rw [if_pos h6]
 simp at h6
 rw [if_neg (by simp [h6])]
 have ax:=lh x nx
 have ay:=lh y ny
 obtain ⟨a,ha⟩:∃ a,a=(cj x).1:=⟨_,rfl⟩
 obtain ⟨b,hb⟩:∃ b,b=(cj y).1:=⟨_,rfl⟩
 rw [<- ha] at ax ⊢
 rw [<- hb] at ay ⊢
 have hmul:=P6 ax ay
 have ax':=ax
 have ay':=ay
 unfold Sm at ax ay
 refine ⟨fun q w'=>∃ m:Int,q=.int .i64 m/\opA s a b=iP m/\Inv w [] [.blk b1 (.cells #[.int .i64 k,.int .i64 n,.string s,kv] ab)] S w',?_,?_⟩
 ·refine ad hI 0 rfl aO aJ rfl ?_
  refine bg ?_
  refine aI (fun h=>?_) (fun h1=>?_)
  ·exact bl (by omega) ⟨_,rfl,by rw [opA,if_pos h],hI⟩
  refine bg ?_
  refine aI (fun h=>?_) (fun h2=>?_)
  ·exact hK (by omega) ⟨_,rfl,by rw [opA,if_neg h1,if_pos h],hI⟩
  refine bg ?_
  refine aI (fun h=>?_) (fun h3=>?_)
  ·exact y0 (by omega) ⟨_,rfl,by rw [opA,if_neg h1,if_neg h2,if_pos h],hI⟩
  refine aZ ?_
  refine aI (fun h=>?_) (fun h4=>?_)
  ·exact gi hI hle (by rw [opA,if_neg h1,if_neg h2,if_neg h3,if_pos h])
  have hd:=Hb (b:=b) ax'
  have hd':=hd
  unfold Sm at hd
  refine RP h4 (by omega) ?_
  refine ad hI 0 rfl aO aJ rfl ?_
  refine bg ?_
  refine aI (fun h=>?_) (fun h5=>?_)
  ·have hm:=He (a:=a) ay' h4
   refine OO h4 ?_
   refine bl (by omega) ?_
   refine OO h4 ?_
   refine ⟨_,rfl,?_,hI⟩
   rw [opA,if_neg h1,if_neg h2,if_neg h3,if_neg h4,if_pos h,Rn h4,PQ (M2 ay' h4)]
  ·refine ⟨_,rfl,?_,hI⟩
   rw [opA,if_neg h1,if_neg h2,if_neg h3,if_neg h4,if_neg h5,PQ hd']
 intro _ _ _ _ _ _ _ _ _ _ _ _ _ _ _ _ _ _ _ _ _ _ _ _ _ _ _ q _ _ _ _ _ _ _ w'
 rintro ⟨m,rfl,hop,hI⟩
 refine Run.callPure g7 g0 hI (gw _ _ _ S) fun w' hI=>?_
 refine bK ?_
 rw [hop,Oc]
 refine az (fun hc=>gi hI hle ?_) (fun hc=>gi hI hle ?_)
 ·rw [Bool.not_eq_true'] at hc
  rw [hc]; rfl
 ·rw [Bool.not_eq_false'] at hc
  rw [hc]; rfl
def Rf (t:T):Bool:=decide (t.kind=3) && (decide (t.kids.length=2) && cM t.name dL)
theorem yx {t:T} {S0:ae} {cs:List Value} (h:RdT S0 cs t):Pure Tryz.prog GA [.agg cs.toArray] S0 (.bool (Rf t)):=by
 intro w hI
 obtain ⟨kv,rfl,_,_,_,hks⟩:=RdT.iff.1 h
 refine tp.2 ?_
 dsimp only[tp,aL]
 unfold Rf
 refine bf hI fun b1 w' hI=>?_
 refine ad hI 0 rfl aE av rfl ?_
 refine aZ ?_
 have el:decide ((t.kids.length:Int)=2)=decide (t.kids.length=2):=by rw [decide_eq_decide]; omega
 cases hk:decide (t.kind=3)
 ·refine rpG ?_
  exact done hI rfl
 refine rpG ?_
 refine ad hI 0 rfl al ah rfl ?_
 refine aC hks af ?_
 refine aZ ?_
 rw [el]
 refine rpG ?_
 cases hl:decide (t.kids.length=2)
 ·refine rpG ?_
  exact done hI rfl
 refine rpG ?_
 refine fe hI (by kernel_rfl) rfl (by omega) fun v S1 w' hE1 hv hI=>?_
 refine ad hI 0 rfl aO aJ rfl ?_
 refine Run.callPure gf gp hI (fM t.name hv) fun w' hI=>?_
 refine rpG ?_
 refine gi hI hE1.1 ?_
 rw [Kc]
 rfl
theorem yl {s:ByteArray} {k n:Int} {ks:List T} {S:ae} {cs:List Value} (h:RdT S cs (.mk k n s ks)) (hl:ks.length=2) (hn:yy ks):Pure Tryz.prog HD [.agg cs.toArray] S (.int .i64 (MJ s (dy ks))):=by
 intro w hI
 obtain ⟨kv,rfl,_,_,_,hks⟩:=RdT.iff.1 h
 simp only [T.name,T.kids,T.kind,T.n] at hks ⊢
 obtain ⟨x,y,rfl⟩:=jR hl
 have nx:=eT hn x (by simp)
 have ny:=eT hn y (by simp)
 rw [dy,dy,dy,MJ]
 refine sI.2 ?_
 dsimp only[sI,aL]
 refine bf hI fun b1 w' hI=>?_
 refine ad hI 0 rfl al ah rfl ?_
 refine bY (i:=0) hI hks af ac (by simp) (fun _ _=>RdT.length) fun cs' hcs'=>?_
 refine Run.callPure ly lx hI (mK x S cs' hcs' nx) fun w' hI=>?_
 refine aj (v:=.int .i64 _) rfl ?_
 refine aj (v:=.int .i64 _) rfl ?_
 refine cD ?_
 refine az (fun h5=>done hI ?_) (fun h5=>?_)
 ·simp at h5
  rw [if_pos h5]
 simp at h5
 rw [if_neg (by simp [h5])]
 refine ad hI 0 rfl al ah rfl ?_
 refine bY (i:=1) hI hks af ac (by simp) (fun _ _=>RdT.length) fun cs' hcs'=>?_
 refine Run.callPure ly lx hI (mK y S cs' hcs' ny) fun w' hI=>?_
 refine aj (v:=.int .i64 _) rfl ?_
 refine aj (v:=.int .i64 _) rfl ?_
 refine cD ?_
 refine az (fun h6=>done hI ?_) (fun h6=>?_)
 ·simp at h6
  rw [if_pos h6]
 simp at h6
 rw [if_neg (by simp [h6])]
 refine ad hI 0 rfl aO aJ rfl ?_
 have hcode:∀ (b:Bool) {w':World} {L:List Item},Inv w [] L S w'->ij s (cj x).1 (cj y).1=b->Run Tryz.prog (eo (.func (.func n_i_holds) #[] #[]) [.bool b]) w' fun v w''=>Ending.returned v=.returned (.int .i64 (dY (ij s (cj x).1 (cj y).1)))/\Inv w [] [] S w'':=fun b w' L hI e=>
  Run.callPure fn_i_holds nm_i_holds hI (dB b S) fun w' hI=>done hI (by rw [e])
 refine bg ?_
 refine aI (fun h=>bq (hcode _ hI (by rw [ij,if_pos h]))) (fun h1=>?_)
 refine bg ?_
 refine aI (fun h=>dl (hcode _ hI (by rw [ij,if_neg h1,if_pos h]))) (fun h2=>?_)
 refine bg ?_
 refine aI (fun h=>eC (hcode _ hI (by rw [ij,if_neg h1,if_neg h2,if_pos h]))) (fun h3=>?_)
 refine bg ?_
 refine aI (fun h=>fw (hcode _ hI (by rw [ij,if_neg h1,if_neg h2,if_neg h3,if_pos h]))) (fun h4=>?_)
 exact aZ (hcode _ hI (by rw [ij,if_neg h1,if_neg h2,if_neg h3,if_neg h4]))
end
end
end Go.Proofs.YtfcbhfjomgopbaaGreat
