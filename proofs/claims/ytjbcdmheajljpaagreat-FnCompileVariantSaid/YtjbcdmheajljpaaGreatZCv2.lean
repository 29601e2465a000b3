/- Reslicing; a read slice joined to a row. -/
import Derived.Test.YtjbcdmheajljpaaGreatZCv1
namespace Go.Proofs.YtjbcdmheajljpaaGreat
section
open Go Go.RowKit

theorem g6 {P:Program} {T e:TypeId} {k:Nat} (h:cf P T=some (e,k)):P.underlying T=some (.slice e)/\∃ i,P.info? e=some i/\i.size=k:=by
 unfold cf at h;split at h
 ·rename_i l g
  rw [C4] at h;obtain ⟨i,j,a⟩:=h;simp only [cO] at a;obtain ⟨rfl,rfl⟩:=a;exact ⟨g,i,j,rfl⟩
 ·cases h
section
variable {P:Program} {w:World} {K:Value->World->Prop}
attribute [local irreducible] Run
theorem fH {n y:Nat} {code:BoundsCode} (h:n<=y):(Instr.sliceBound (.int .i64 n) y code).run P w=.ok n w:=by
 have a:(0:Int)<=(n:Int)/\(n:Int)<=(y:Int):=by omega
 simp [Instr.sliceBound,asIntOf,h]
theorem Jl {T ty e:TypeId} {k h len cap:Nat} {a:Option Addr} (g:cf P T=some (e,k)) (j:h<=cap) (hk:K (.slice (if cap=0 then a else a.map (·.add (0 * k))) h cap) w) :
  Run P (sOp (.slice T (.const (.slice a len cap)) none (some (.const (.int .i64 h))) none) ty) w K:=by
 obtain ⟨l,i,m,_⟩:=g6 g;refine Run.of ?_ hk;simp [sOp,execOp,ev0,evE,Instr.sliceAt,Instr.slice,Instr.sliceBounds,run_underlying l,fH j,sizeOf,typeInfo,m]
theorem Co {T ty e:TypeId} {k l len cap:Nat} {a:Option Addr} (g:cf P T=some (e,k)) (h:l<=len) (hk:K (.slice (if cap=l then a else a.map (·.add (l * k))) (len - l) (cap - l)) w) :
  Run P (sOp (.slice T (.const (.slice a len cap)) (some (.const (.int .i64 l))) none none) ty) w K:=by
 obtain ⟨j,i,m,o⟩:=g6 g;refine Run.of ?_ hk;simp [sOp,execOp,ev0,evE,Instr.sliceAt,Instr.slice,Instr.sliceBounds,run_underlying j,fH h,sizeOf,typeInfo,m,o]
theorem HO {T ty e:TypeId} {k l h len cap:Nat} {a:Option Addr} (g:cf P T=some (e,k)) (j:l<=h) (m:h<=cap) (hk:K (.slice (if cap=l then a else a.map (·.add (l * k))) (h - l) (cap - l)) w) :
  Run P (sOp (.slice T (.const (.slice a len cap)) (some (.const (.int .i64 l))) (some (.const (.int .i64 h))) none) ty) w K:=by
 obtain ⟨o,i,p,q⟩:=g6 g;refine Run.of ?_ hk;simp [sOp,execOp,ev0,evE,Instr.sliceAt,Instr.slice,Instr.sliceBounds,run_underlying o,fH j,fH m,sizeOf,typeInfo,p,q]
end
theorem RdSl.to {α:Type} {S:af} {k:Nat} {R:List Value->α->Prop} {a:Option Addr} {cap n h:Nat} {xs:List α} (g:RdSl S k R (.slice a n cap) xs) (r:h<=xs.length) :
  RdSl S k R (.slice (if cap=0 then a else a.map (·.add (0 * k))) h cap) (xs.take h):=by
 obtain ⟨u,j,e,B,hc,g⟩:=g;simp only [Value.slice.injEq] at e;obtain ⟨rfl,rfl,rfl⟩:=e;have l:(if cap=0 then a else a.map (·.add (0 * k)))=a:=by
  split
  ·rfl
  ·cases a <;> simp [Addr.add]
 rw [l];have m:h=(xs.take h).length:=by rw [mL]; omega
 refine ⟨a,cap,by rw [<- m],by omega,hc,?_⟩;rcases g with rfl|⟨b,o,c,E,p,rfl,q,hR⟩
 ·left; simp
 ·right;refine ⟨b,o,c,E,p,rfl,q,fun i t=>?_⟩;rw [List.getElem_take];exact hR i (by omega)
theorem RdSl.from {α:Type} {S:af} {k:Nat} {R:List Value->α->Prop} {a:Option Addr} {cap n l:Nat} {xs:List α} (g:RdSl S k R (.slice a n cap) xs) (B:l<=xs.length) :
  RdSl S k R (.slice (if cap=l then a else a.map (·.add (l * k))) (n - l) (cap - l)) (xs.drop l):=by
 obtain ⟨C,m,e,q,hc,g⟩:=g;simp only [Value.slice.injEq] at e;obtain ⟨rfl,rfl,rfl⟩:=e;refine ⟨_,cap - l,by rw [BB],by rw [BB]; omega,by omega,?_⟩;by_cases j:xs.drop l=[]
 ·exact .inl j
 ·rcases g with rfl|⟨b,o,c,E,t,rfl,u,hR⟩
  ·simp at j
  ·right;have r:l<xs.length:=by
    rcases yY l xs.length with h|h
    ·exact h
    ·exact absurd (tC h) j
   refine ⟨b,o+l * k,c,E,t,?_,u,fun i p=>?_⟩
   ·rw [ah (by omega)];simp [Addr.add]
   ·rw [List.getElem_drop];have:=hR (l+i) (by simp at p; omega)
    rwa [gI,<- Nat.add_assoc] at this
section
variable {P:Program} {w w0:World} {X:List Nat} {L:List Item} {S:af} {K:Value->World->Prop}
attribute [local irreducible] Run CondV aw aI
theorem Ax {α:Type} {R:List Value->α->Prop} {xs:List α} {v:Value} {T ty e:TypeId} {k l:Nat} (j:cf P T=some (e,k)) (g:RdSl S k R v xs) (h:l<=xs.length)
  (hk:∀ i,RdSl S k R i (xs.drop l)->K i w):Run P (sOp (.slice T (.const v) (some (.const (.int .i64 l))) none none) ty) w K:=by
 obtain ⟨a,cap,rfl,m,hc,o⟩:=id g;exact Co j h (hk _ (g.from h))
end
theorem RdSl.exact {α:Type} {S:af} {k:Nat} {R:List Value->α->Prop} {v:Value} {ys:List α} (h:RdSl S k R v ys) (hk:∀ cs y,R cs y->cs.length=k) :
  ∃ ds:List {cs:List Value // cs.length=k},RdSl S k (fun cs d=>cs=d.val) v ds/\Rows k R (ds.map (·.val)) ys:=by
 obtain ⟨a,cap,rfl,j,hc,m⟩:=h;rcases m with rfl|⟨b,o,c,E,p,rfl,q,hR⟩
 ·exact ⟨[],⟨a,cap,rfl,j,hc,.inl rfl⟩,Rows.nil _ _⟩
 ·refine ⟨List.ofFn fun i:Fin ys.length=>⟨bd c (o+i.val * k) k,hk _ _ (hR i.val i.isLt)⟩,⟨_,cap,by rw [List.length_ofFn],by rw [List.length_ofFn]; exact j,hc,.inr ⟨b,o,c,E,p,rfl,q,fun i r=>by simp⟩⟩,⟨by simp,fun cs g=>?_,fun i l t=>?_⟩⟩
  ·obtain ⟨d,_,rfl⟩:=mF.1 g;exact d.property
  ·simp only [Gx,List.getElem_ofFn];exact hR i l
section
variable {P:Program} {w w0:World} {X:List Nat} {L:List Item} {S:af} {K:Value->World->Prop}
attribute [local irreducible] Run CondV aw aI
theorem gq {α:Type} {R:List Value->α->Prop} (h:Inv w0 X L S w) {T ty e:TypeId} {k B:Nat} {z v u:Value} {cs:List Bool} {css:List (List Value)} {ys:List α} (i:Nat)
  (Z:fY P T=some (e,k,B,z)) (p:0<k) (M:L[i]?=some (ax v e k css)) (hr:RdSl S k R u ys) (C:∀ cs y,R cs y->cs.length=k) (h1:∀ cs y,R cs y->∀ c∈cs,c.oneCell'=true)
  (a0:css.length+ys.length<=4294967296) (N:B<=32768) (hk:∀ r w' m,Rows k R m ys->Inv w0 X (L.set i (ax r e k (css++m))) S w'->K r w') :
  Run P (bn .append #[T,T] ty cs [v,u]) w K:=by
 obtain ⟨ds,hd,hR⟩:=hr.exact C;have a4:ds.length=ys.length:=by have:=hR.hc; simpa using this
 have G:∀ d∈ds,∀ c∈d.val,c.oneCell'=true:=by
  intro d q c hc;obtain ⟨j,D,rfl⟩:=List.mem_iff_getElem.1 q;have:=hR.hR j (by omega) (by simpa using D);simp only [Gx] at this;exact h1 _ _ this c hc
 obtain ⟨a,cap,rfl,a1,a2,hx⟩:=id hd;have e1:∀ r,Item.row r e k (css.length+ds.length) (css.flatten++(ds.map (·.val)).flatten)=ax r e k (css++ds.map (·.val)):=fun r=>by simp [ax]
 rcases hx with rfl|⟨b,o,c,E,fz,rfl,hS,Y⟩
 ·refine Fl h i Z M (hk v w [] (by simpa using hR) ?_);have:L.set i (ax v e k (css++[]))=L:=by
   obtain ⟨a3,e'⟩:=gX.1 M;rw [cS,<- e',List.set_getElem_self]
  rw [this];exact h
 ·have J:(ds.map (·.val)).flatten.length=ds.length * k:=by
   rw [gD (k:=k) (fun cs g=>by obtain ⟨d,_,rfl⟩:=mF.1 g; exact d.property),A6]
  refine dH h i (ds.map (·.val)).flatten Z p M J ?_ ?_ (by omega) N fun r w' hI=>hk _ _ _ hR ?_
  ·intro j u D;have U:j<ds.length * k:=by
    rw [<- J];exact (gX.1 D).1
   have hq:j / k<ds.length:=(Nat.div_lt_iff_lt_mul p).2 U;have t:=Y (j / k) hq;have l:=eK k (ds.map (·.val)) (j / k) (fun cs g=>by obtain ⟨d,_,rfl⟩:=mF.1 g; exact d.property) (by simpa using hq);have V:=Nat.div_add_mod j k;rw [Nat.mul_comm] at V;rw [h.cellS hS];have e2:(ds.map (·.val)).flatten[j]?=(ds[j / k].val)[j % k]?:=by
    rw [Gx] at l;rw [<- l,rC,ai (qw _ p),rq]
    congr 1
    omega
   rw [e2] at D;have:=aX t (j % k) u D;rw [<- this]
   congr 1
   omega
  ·intro u O;obtain ⟨cs,g,O⟩:=List.mem_flatten.1 O;obtain ⟨d,q,rfl⟩:=mF.1 g;exact G d q u O
  ·rw [<- e1];exact hI
end
end
section
open Go Go.RowKit
section
variable {P:Program} {w w0:World} {X:List Nat} {L:List Item} {S:af} {K:Value->World->Prop}
attribute [local irreducible] Run CondV aw aI
end
end
section
open Go Go.RowKit
attribute [local irreducible] Run CondV aw aI
end
section
open Go Go.RowKit
attribute [local irreducible] Run CondV aw aI
end
section
open Go Go.RowKit
section
attribute [local irreducible] Run CondV aw aI
end
end
section
open Go Go.RowKit
theorem Inv.pubExt {w0 w:World} {X:List Nat} {A:List Item} {S:af} {L:aU} (h:Inv w0 X (A++aS L) S w) :
  ∃ S',Inv w0 X A S' w/\Ext w0.heap.size X S S'/\Ins S' L:=by
 obtain ⟨S',i,j,l,m⟩:=h.publishAll L;refine ⟨S',i,⟨j,fun b o g=>?_⟩,l⟩;rcases m b o g with a|a
 ·exact .inl a
 ·right;exact h.new b (by rw [bM]; exact kG _ a)
theorem Inv.pub1 {w0 w:World} {X:List Nat} {A:List Item} {S:af} {b:Nat} {o:Obj} (h:Inv w0 X (A++[.blk b o]) S w) :
  ∃ S',Inv w0 X A S' w/\Ext w0.heap.size X S S'/\S' b=some o:=by
 obtain ⟨S',a,g,i⟩:=Inv.pubExt (A:=A) (L:=[(b,o)]) h;exact ⟨S',a,g,i _ (fl.2 rfl)⟩
theorem Rows.monoR {α:Type} {k:Nat} {R R':List Value->α->Prop} {css:List (List Value)} {ys:List α} (h:Rows k R css ys) (hR:∀ cs y,R cs y->R' cs y):Rows k R' css ys:=⟨h.hc,h.hk,fun i a g=>hR _ _ (h.hR i a g)⟩
theorem Rows.one {α:Type} {k:Nat} {R:List Value->α->Prop} {cs:List Value} {y:α} (hR:R cs y) (a:cs.length=k):Rows k R [cs] [y]:=by
 have:=(Rows.nil k R).snoc hR a;exact this
section
variable {P:Program} {w w0:World} {X:List Nat} {L:List Item} {S:af} {K:Value->World->Prop}
theorem Run.call0E {f:FuncId} {fn:Func} {args:List Value} {Post:Value->List Item->af->Prop}
  (hf:P.funcs[f]?=some fn) (hn:(fn.name == "runtime.NumGoroutine" || fn.body.isNone)=false) (h:Inv w0 X L S w) (hc:Tri P f args [] S Post)
  (hk:∀ v I' S' w',Post v I' S'->Ext w0.heap.size X S S'->Inv w0 X (L++I') S' w'->K v w'):Run P (dX (.func (.func f) #[] #[]) args) w K:=by
 refine Run.callP hf hn ((hc w h.nil.begin).mono ?_);rintro e w' ⟨v,I',S',rfl,i,g,j⟩;refine hk v I' S' w' j ⟨g.1,fun b o l=>?_⟩ (Inv.step (A:=L) (B:=[]) (by simpa using h) i g.2);rcases g.2 b o l with a|a|a
 ·exact .inl a
 ·simp [bF] at a
 ·exact .inr (.inr (jd h.size a))
end
theorem Ext.trans {n:Nat} {Y:List Nat} {S S' S'':af} (h:Ext n Y S S') (g:Ext n Y S' S''):Ext n Y S S'':=by
 refine ⟨h.1.trans g.1,fun b o i=>?_⟩;rcases g.2 b o i with a|a
 ·exact h.2 b o a
 ·exact .inr a
section
variable {P:Program} {w w0:World} {X:List Nat} {A I:List Item} {S:af} {K:Value->World->Prop}
theorem Jf {f:FuncId} {args:List Value} {Post:Value->List Item->af->Prop} (h:Inv w0 X (A++I) S w) (hc:Tri P f args I S Post) :
  Calls P f args.toArray w fun e w'=>∃ v I' S',e=.returned v/\Inv w0 X (A++I') S' w'/\Ext w0.heap.size X S S'/\Post v I' S':=by
 refine (hc w (h.sub (fF A I)).begin).mono ?_;rintro e w' ⟨v,I',S',rfl,i,g,j⟩;refine ⟨v,I',S',rfl,Inv.step h i g.2,⟨g.1,fun b o l=>?_⟩,j⟩;rcases g.2 b o l with a|a|a
 ·exact .inl a
 ·exact .inr (h.new b (by rw [bM]; exact kG _ a))
 ·exact .inr (.inr (jd h.size a))
theorem Run.callE {f:FuncId} {fn:Func} {args:List Value} {Post:Value->List Item->af->Prop}
  (hf:P.funcs[f]?=some fn) (hn:(fn.name == "runtime.NumGoroutine" || fn.body.isNone)=false) (h:Inv w0 X (A++I) S w) (hc:Tri P f args I S Post)
  (hk:∀ v I' S' w',Post v I' S'->Ext w0.heap.size X S S'->Inv w0 X (A++I') S' w'->K v w'):Run P (dX (.func (.func f) #[] #[]) args) w K:=by
 refine Run.callP hf hn ((Jf h hc).mono ?_);rintro e w' ⟨v,I',S',rfl,a,g,i⟩;exact hk v I' S' w' i g a
end
theorem Inv.lendExt {w0 w:World} {X:List Nat} {A:List Item} {S:af} {v:Value} {e:TypeId} {k:Nat} {css:List (List Value)} (h:Inv w0 X (A++[ax v e k css]) S w) :
  ∃ S',Ext w0.heap.size X S S'/\RowRd S' v e k css.length css.flatten/\Inv w0 X A S' w:=by
 obtain ⟨m,o⟩:=h.openRow;rcases o with ⟨rfl,t⟩|⟨g,cap,a,rfl,i,j,l,u,B⟩
 ·exact ⟨S,Ext.refl _ _ _,⟨m,.inl ⟨rfl,t⟩⟩,h.sub (ii _ _)⟩
 ·obtain ⟨S',p,q,r⟩:=Inv.pub1 (A:=A) B;exact ⟨S',q,⟨m,.inr ⟨g,cap,a,rfl,r,i,j,l,u⟩⟩,p⟩
end
section
open Go Go.RowKit
section
variable {w:World} {K:Value->World->Prop}
attribute [local irreducible] Run
theorem uU (hk:K (.agg #[.int .i64 0,.int .i64 0,.string ⟨#[]⟩,.slice none 0 0,.slice none 0 0]) w):Run Tryz.prog (bP ae []) w K:=by
 refine Run.of (v:=.agg #[.int .i64 0,.int .i64 0,.string ⟨#[]⟩,.slice none 0 0,.slice none 0 0]) (w':=w) ?_ hk;unfold bP;rw [Sem.run_bind,run_build w ae _ #[.int .i64 0,.int .i64 0,.string ⟨#[]⟩,.slice none 0 0,.slice none 0 0] (by kernel_rfl),Result.andThen_ok];rfl
end
section
attribute [local irreducible] Run CondV aw aI
abbrev In (c:C):Value->List Item->af->Prop:=fun v I' S'=>I'=[]/\∃ cs,v=.agg cs.toArray/\RdC S' cs c
def GZ (c:C):C:=if a4 c=true then wD (bu c) c else ⟨⟨0,0,⟨#[]⟩,[]⟩,[]⟩
theorem RdC.zero (S:af):RdC S [.int .i64 0,.int .i64 0,.string ⟨#[]⟩,.slice none 0 0,.slice none 0 0] ⟨⟨0,0,⟨#[]⟩,[]⟩,[]⟩:=
 ⟨[.int .i64 0,.int .i64 0,.string ⟨#[]⟩,.slice none 0 0],.slice none 0 0,rfl,RdT.iff.2 ⟨_,rfl,by simp [inI,T.kind],by simp [inI,T.n],by rw [T.name]; decide +kernel,⟨none,0,rfl,a7 _,aQ _,.inl rfl⟩⟩,⟨none,0,rfl,a7 _,aQ _,.inl rfl⟩⟩
end
end
section
open Go Go.RowKit

section
variable {P:Program} {w w0:World} {X:List Nat} {L:List Item} {S:af} {K:Value->World->Prop}
attribute [local irreducible] Run CondV aw aI
theorem Run.callVPure {f:FuncId} {fn:Func} {cap args:List Value} {r:Value} (hf:P.funcs[f]?=some fn) (hn:(fn.name == "runtime.NumGoroutine" || fn.body.isNone)=false) (h:Inv w0 X L S w) (hc:Pure P f (args++cap) S r)
  (hk:∀ w',Inv w0 X L S w'->K r w'):Run P (dX (fv f cap) args) w K:=by
 refine Run.callV (A:=L) (I:=[]) hf hn (by simpa using h) (Post:=fun v I' S'=>v=r/\I'=[]/\S'=S) ?_ fun j I' S' w'=>?_
 ·intro g a;exact (hc g a).mono fun e w' ⟨i,a⟩=>⟨_,_,_,i,a,Ext.refl _ _ _,rfl,rfl,rfl⟩
 ·rintro ⟨rfl,rfl,rfl⟩ _ a;exact hk _ (by simpa using a)
end
section
attribute [local irreducible] Run CondV aw aI
end
end
section
open Go Go.RowKit
section
variable {P:Program} {w:World} {K:Value->World->Prop}
attribute [local irreducible] Run
theorem Hi {T ty e:TypeId} {k h m len cap:Nat} {a:Option Addr} (g:cf P T=some (e,k)) (j:h<=m) (l:m<=cap) (hk:K (.slice (if m=0 then a else a.map (·.add (0 * k))) h m) w) :
  Run P (sOp (.slice T (.const (.slice a len cap)) none (some (.const (.int .i64 h))) (some (.const (.int .i64 m)))) ty) w K:=by
 obtain ⟨o,i,p,q⟩:=g6 g;refine Run.of ?_ hk;simp [sOp,execOp,ev0,evE,Instr.sliceAt,Instr.slice,Instr.sliceBounds,run_underlying o,fH j,fH l,sizeOf,typeInfo,p]
end
section
attribute [local irreducible] Run CondV aw aI
theorem DV {α:Type} {R:List Value->α->Prop} {S:af} {v:Value} {xs:List α} (h:RdSl S 4 R v xs):∃ r,RdSl S 4 R r xs/\Pure Tryz.prog vM [v] S r:=by
 obtain ⟨a,cap,rfl,i,hc,j⟩:=id h;have l:∀ m:Nat,(if m=0 then a else a.map (·.add (0 * 4)))=a:=by
  intro m;split
  ·rfl
  ·cases a <;> simp [Addr.add]
 refine ⟨.slice a xs.length xs.length,⟨a,xs.length,rfl,a7 _,by omega,j⟩,fun w g=>?_⟩;refine lT.2 ?_;dsimp only[lT,aG];refine aL h ao ?_;refine aL h ao ?_;refine Hi ao (a7 _) i ?_;rw [l];exact done g rfl
theorem ua (n:Int) (S:af):Pure Tryz.prog zr [.int .i64 n] S (.agg #[.int .i64 1,.int .i64 n,.string ⟨#[]⟩,.slice none 0 0]):=by
 intro w a;refine mR.2 ?_;dsimp only[mR,aG];refine aF a aZ fun h w' a=>?_;have g:∀ {K:Value->World->Prop} {w':World},K (.agg #[.int .i64 1,.int .i64 n,.string ⟨#[]⟩,.slice none 0 0]) w'->Run Tryz.prog (bP ac [(0,.int .i64 1),(1,.int .i64 n)]) w' K:=by
  intro K w' hk;refine Run.of (v:=.agg #[.int .i64 1,.int .i64 n,.string ⟨#[]⟩,.slice none 0 0]) (w':=w') ?_ hk;unfold bP;rw [Sem.run_bind,run_build w' ac _ #[.int .i64 1,.int .i64 n,.string ⟨#[]⟩,.slice none 0 0] (by kernel_rfl),Result.andThen_ok];rfl
 refine g ?_;refine al a 0 rfl ad rfl rfl (by simp [Value.oneCell']) fun w' a=>?_;refine a5 a 0 ad rfl rfl ?_;exact done a rfl
theorem nj {vs:List Int} {S:af} {g:Nat} {h:Value} {E:TypeId} (n:Int) (i:S g=some (.cells #[h] E)) (j:RdSl S 1 gL h vs) :
  Pure Tryz.prog ff [.int .i64 n,.pointer (some ⟨g,0,none⟩)] S (.agg #[.int .i64 1,.int .i64 (nK vs n),.string ⟨#[]⟩,.slice none 0 0]):=by
 intro w a;refine iL.2 ?_;dsimp only[iL,a6];refine aF a aZ fun l w' a=>?_;refine dq fi (by rw [a.cellS i]; rfl) ?_;refine Run.callPure lJ lH a (kK n j) fun w' a=>?_;refine Run.callPure vO vQ a (ua _ S) fun w' a=>?_;refine al a 0 rfl ad rfl rfl (by simp [Value.oneCell']) fun w' a=>?_;refine a5 a 0 ad rfl rfl ?_;exact done a rfl
theorem vW (vs:List Int) (c1:vs.length<=1000000000):∀ (t:T) (S:af) (cs:List Value) (g:Nat) (vv:Value) (E:TypeId),RdT S cs t->S g=some (.cells #[vv] E)->RdSl S 1 gL vv vs->wT t<=1048576->
  Tri Tryz.prog rn [.agg cs.toArray,fv ff [.pointer (some ⟨g,0,none⟩)]] [] S (uF S (kL vs t)):=by
 refine T.ind fun k n s ks a8 S cs g vv E h hS hv hw=>?_;have ih:∀ t∈ks,∀ (S:af) (cs:List Value),RdT S cs t->S g=some (.cells #[vv] E)->RdSl S 1 gL vv vs->wT t<=1048576->
  Tri Tryz.prog rn [.agg cs.toArray,fv ff [.pointer (some ⟨g,0,none⟩)]] [] S (uF S (kL vs t)):=fun t ht S cs h1 h2 h3 h4=>a8 t ht S cs g vv E h1 h2 h3 h4
 clear a8;intro w a;obtain ⟨kv,rfl,h1,h2,hs,a2⟩:=RdT.iff.1 h;simp only [T.name,T.kids,T.kind,T.n] at h1 h2 hs a2 ⊢;simp only [wT] at hw;have c3:=GW vs n;refine oG.2 ?_;dsimp only[oG,a6];refine bB a fun G w' a=>?_;refine aF a aZ fun b4 w' a=>?_;refine ag a 0 rfl aV az rfl ?_;refine bo ?_;rw [kL];refine aR (fun a1=>?_) (fun a1=>?_)
 ·rw [ai a1];refine ag a 0 rfl aM az rfl ?_;refine Run.callVPure pR oS a (nj n hS hv) fun w' a=>?_;refine al a 1 rfl ad rfl rfl (by simp [Value.oneCell']) fun w' a=>?_;refine a5 a 1 ad rfl rfl ?_;exact ⟨_,_,_,rfl,a.pick [false,false],Ext.refl _ _ _,rfl,[_,_,_,_],[],rfl,rfl,TrT.iff.2 ⟨_,rfl,by simp [inI,T.kind],by simp only [inI,T.n]; omega,by rw [T.name]; decide +kernel,TrSl.nil (by simp [maxLen])⟩⟩
 rw [ah a1];refine ag a 0 rfl av ar rfl ?_;refine dl a 0 rfl av ar rfl rfl rfl fun w' a=>?_;refine aL a2 ao ?_;have a:Inv w [] [.blk b4 (.cells #[.int .i64 0,.int .i64 0,.string ⟨#[]⟩,.slice none 0 0] ac),.blk G (.cells #[.int .i64 k,.int .i64 n,.string s,.slice none 0 0] ac)] S w':=a.perm (List.Perm.swap _ _ _);have a:=a.rowNil ac 4;refine ⟨fun i w'=>∃ (j:Nat) (p:Value) (Ls:List aU) (css:List (List Value)),j<=ks.length/\i=.int .i64 j/\Grown 4 TrT Ls css (gc vs (ks.take j))/\
   Inv w [] (.blk b4 (.cells #[.int .i64 0,.int .i64 0,.string ⟨#[]⟩,.slice none 0 0] ac)::.blk G (.cells #[.int .i64 k,.int .i64 n,.string s,p] ac)::ax p ac 4 css::aS Ls.flatten) S w',
  fun i _=>ks.length - (intOf i).toNat,⟨0,_,[],[],aQ _,rfl,Grown.nil _ _,a⟩,?_⟩
 intro c2 _ _ _ _ _ _ _ _ _ _ _ _ _ w';rintro ⟨j,p,Ls,css,hj,rfl,hg,a⟩;refine cq ?_;refine aR (fun b3=>?_) (fun b3=>?_)
 ·have a0:j<ks.length:=by omega
  have c5:(ks.take j).length=j:=by simp; omega
  have b6:=hg.hc;rw [qf] at b6;have hm:=cr a0;have c6:=ji hm;refine dx a a2 ao ad a0 (fun _ _=>RdT.length) fun J O=>?_;refine aF a aZ fun b7 w' a=>?_;have a:=a.perm (M:=.blk b7 _::(.blk b4 (.cells #[.int .i64 0,.int .i64 0,.string ⟨#[]⟩,.slice none 0 0] ac)::.blk G (.cells #[.int .i64 k,.int .i64 n,.string s,p] ac)::ax p ac 4 css::aS Ls.flatten)) (dy (l₁:=[_]));refine al a 0 rfl ad (by simpa using O.length) rfl (by simpa using O.one) fun w' a=>?_;refine ⟨fun D sK N sJ iI tl sg gu rV w_=>Fx D 0 [rV=.pointer (some ⟨G,3,none⟩),gu=p,sg=.agg J.toArray,tl=fv ff [.pointer (some ⟨g,0,none⟩)],True,True,True,sK=.pointer (some ⟨G,3,none⟩),True]/\∃ M l C,(D 4=true->iI=.agg l.toArray/\TrT M l (kL vs ks[j]))/\(D 5=true->sJ=.slice (some ⟨C,0,none⟩) 1 1)/\(D 5=true->D 4=true)/\(D 6=true->D 5=true)/\(D 8=true->D 6=true)/\(D 8=true->D 1=true)/\Inv w [] (aH (.blk b7 (.cells J.toArray ac)) (.blk b4 (.cells #[.int .i64 0,.int .i64 0,.string ⟨#[]⟩,.slice none 0 0] ac)) (.blk G (.cells #[.int .i64 k,.int .i64 n,.string s,p] ac)) (.blk G (.cells #[.int .i64 k,.int .i64 n,.string s,N] ac)) (ax p ac 4 css) (ax N ac 4 (css++[l])) (aS Ls.flatten) M (.blk C (.cells l.toArray ac)) (D 4) (D 5) (D 6) (D 8)) S w_,⟨Fx.nil _ _,⟨[],[],0,aP,aP,aP,aP,aP,aP,by simpa [aH,aS] using a.draw⟩⟩,⟨?_,?_,?_,?_,?_,?_,?_,?_,?_,trivial⟩,?_⟩;all_goals (intro D Y; intros; rename_i sK N sJ iI tl sg gu rV w_ a4; have r:=a4.1; obtain ⟨⟨c9,cX,cZ,c4,cY,c8,cB,df,dK,_⟩,⟨M,l,C,U,e8,k8,V,q,k1,a⟩⟩:=a4)
  ·refine ay av ?_;exact ⟨r.set 0 rfl,⟨M,l,C,U,e8,k8,V,q,k1,a⟩⟩
  ·obtain rfl:=c9 ‹_›;have B:D 8=false:=bS.2 fun h=>by rw [k1 h] at Y; cases Y
   refine aJ (b:=G) a 2 (c:=(#[.int .i64 k,.int .i64 n,.string s,p])) ar (by rw [B]; rfl) rfl ?_;have k1:=fun (_:aB D 1 8=true)=>(rfl:aB D 1 1=true)
   exact ⟨r.set 1 rfl,⟨M,l,C,U,e8,k8,V,q,k1,a⟩⟩
  ·refine au a 0 ad rfl (by simpa using O.length) ?_;exact ⟨r.set 2 rfl,⟨M,l,C,U,e8,k8,V,q,k1,a⟩⟩
  ·exact ⟨r.set 3 rfl,⟨M,l,C,U,e8,k8,V,q,k1,a⟩⟩
  ·obtain rfl:=cZ ‹_›;obtain rfl:=c4 ‹_›;have f8:D 5=false:=bS.2 fun h=>by rw [k8 h] at Y; cases Y
   have f9:D 6=false:=bS.2 fun h=>by rw [V h] at f8; cases f8
   have B:D 8=false:=bS.2 fun h=>by rw [q h] at f9; cases f9
   rw [Y,f8,f9,B] at a;refine Run.call0 pX oK a (ih _ (cr a0) S J O hS hv (by omega)) fun v' I' S w_=>?_;rintro ⟨rfl,l,M,rfl,rfl,Z⟩ _ a;have U:aB D 4 4=true->Value.agg l.toArray=Value.agg l.toArray/\TrT M l (kL vs ks[j]):=fun _=>⟨rfl,Z⟩
   have k8:=fun (_:aB D 4 5=true)=>(rfl:aB D 4 4=true)
   have a:Inv w [] (aH (.blk b7 (.cells J.toArray ac)) (.blk b4 (.cells #[.int .i64 0,.int .i64 0,.string ⟨#[]⟩,.slice none 0 0] ac)) (.blk G (.cells #[.int .i64 k,.int .i64 n,.string s,p] ac)) (.blk G (.cells #[.int .i64 k,.int .i64 n,.string s,N] ac)) (ax p ac 4 css) (ax N ac 4 (css++[l])) (aS Ls.flatten) M (.blk C (.cells l.toArray ac)) true (D 5) (D 6) (D 8)) S w_:=by
    rw [f8,f9,B];simpa [aH] using a
   exact ⟨r.set 4 (by first|assumption|trivial),⟨M,l,C,U,e8,k8,V,q,k1,a⟩⟩
  ·have CU:=cY ‹_›;have f9:D 6=false:=bS.2 fun h=>by rw [V h] at Y; cases Y
   have B:D 8=false:=bS.2 fun h=>by rw [q h] at f9; cases f9
   obtain ⟨q7,Z⟩:=U ‹D 4=true›;subst q7;rw [‹D 4=true›,Y,f9,B] at a;refine dI a bw (by simp [Value.cells,Z.length]) (by omega) (by omega) fun C w_ a=>?_;have U:aB D 5 4=true->Value.agg l.toArray=Value.agg l.toArray/\TrT M l (kL vs ks[j]):=fun _=>⟨rfl,Z⟩
   have e8:=fun (_:aB D 5 5=true)=>(rfl:Value.slice (some ⟨C,0,none⟩) 1 1=_)
   have k8:=fun (_:aB D 5 5=true)=>‹D 4=true›;have V:=fun (_:aB D 5 6=true)=>(rfl:aB D 5 5=true)
   have a:Inv w [] (aH (.blk b7 (.cells J.toArray ac)) (.blk b4 (.cells #[.int .i64 0,.int .i64 0,.string ⟨#[]⟩,.slice none 0 0] ac)) (.blk G (.cells #[.int .i64 k,.int .i64 n,.string s,p] ac)) (.blk G (.cells #[.int .i64 k,.int .i64 n,.string s,N] ac)) (ax p ac 4 css) (ax N ac 4 (css++[l])) (aS Ls.flatten) M (.blk C (.cells l.toArray ac)) (D 4) true (D 6) (D 8)) S w_:=by
    rw [‹D 4=true›,f9,B];simpa [aH,Value.cells] using a
   exact ⟨r.set 5 (by first|assumption|trivial),⟨M,l,C,U,e8,k8,V,q,k1,a⟩⟩
  ·obtain rfl:=cX ‹_›;have FU:=c8 ‹_›;have B:D 8=false:=bS.2 fun h=>by rw [q h] at Y; cases Y
   have q8:=e8 ‹D 5=true›;subst q8;obtain ⟨_,Z⟩:=U ‹D 4=true›;rw [‹D 4=true›,‹D 5=true›,Y,B] at a;have a9:((aH (.blk b7 (.cells J.toArray ac)) (.blk b4 (.cells #[.int .i64 0,.int .i64 0,.string ⟨#[]⟩,.slice none 0 0] ac)) (.blk G (.cells #[.int .i64 k,.int .i64 n,.string s,gu] ac)) (.blk G (.cells #[.int .i64 k,.int .i64 n,.string s,N] ac)) (ax gu ac 4 css) (ax N ac 4 (css++[l])) (aS Ls.flatten) M (.blk C (.cells l.toArray ac)) true true false false))[4+(aS Ls.flatten).length+(aS M).length]?=some (.blk C (.cells l.toArray ac)):=by
    have e4:4+(aS Ls.flatten).length+(aS M).length=((aS Ls.flatten).length+(aS M).length)+1+1+1+1:=by omega
    rw [e4];simp only [aH,iq];rw [fP (by omega),pE,fP (a7 _),dY]; rfl
   refine dH a 3 l bw (by omega) rfl (by rw [Z.length]) (m:=1) (o:=0) ?_ Z.one (by omega) (by omega) fun v' w_ a=>?_
   ·intro i u hi;rw [a.cellL a9,ct];simpa using hi
   rw [dZ] at a;have V:=fun (_:aB D 6 6=true)=>‹D 5=true›;have q:=fun (_:aB D 6 8=true)=>(rfl:aB D 6 6=true)
   have a:Inv w [] (aH (.blk b7 (.cells J.toArray ac)) (.blk b4 (.cells #[.int .i64 0,.int .i64 0,.string ⟨#[]⟩,.slice none 0 0] ac)) (.blk G (.cells #[.int .i64 k,.int .i64 n,.string s,gu] ac)) (.blk G (.cells #[.int .i64 k,.int .i64 n,.string s,v'] ac)) (ax gu ac 4 css) (ax v' ac 4 (css++[l])) (aS Ls.flatten) M (.blk C (.cells l.toArray ac)) (D 4) (D 5) true (D 8)) S w_:=by
    rw [‹D 4=true›,‹D 5=true›,B];exact a
   exact ⟨r.set 6 (by first|assumption|trivial),⟨M,l,C,U,e8,k8,V,q,k1,a⟩⟩
  ·refine ay av ?_;exact ⟨r.set 7 rfl,⟨M,l,C,U,e8,k8,V,q,k1,a⟩⟩
  ·obtain rfl:=df ‹_›;have zK:=cB ‹_›;rw [‹D 4=true›,‹D 5=true›,‹D 6=true›,Y] at a;obtain ⟨va,vn,vc,a3⟩:=Inv.rowSlice a 3 rfl;refine di a 2 (n:=1) (by rw [a3]; rfl) (by decide +kernel) rfl (by simp) (by rw [a3]; simp [Value.cells,Value.oneCell']) fun w_ a=>?_;have b0:Value.cells N=#[N]:=by rw [a3]; rfl
   rw [b0] at a;have k1:=fun (_:aB D 8 8=true)=>‹D 1=true›;have q:=fun (_:aB D 8 8=true)=>‹D 6=true›;have a:Inv w [] (aH (.blk b7 (.cells J.toArray ac)) (.blk b4 (.cells #[.int .i64 0,.int .i64 0,.string ⟨#[]⟩,.slice none 0 0] ac)) (.blk G (.cells #[.int .i64 k,.int .i64 n,.string s,p] ac)) (.blk G (.cells #[.int .i64 k,.int .i64 n,.string s,N] ac)) (ax p ac 4 css) (ax N ac 4 (css++[l])) (aS Ls.flatten) M (.blk C (.cells l.toArray ac)) (D 4) (D 5) (D 6) true) S w_:=by
    rw [‹D 4=true›,‹D 5=true›,‹D 6=true›];exact a
   exact ⟨r.set 8 trivial,⟨M,l,C,U,e8,k8,V,q,k1,a⟩⟩
  obtain ⟨rfl,rfl,rfl,rfl,CU,FU,zK,rfl,_,_⟩:=r.all;have KO:D 4=true:=by assumption
  have Kt:D 5=true:=by assumption
  have JF:D 6=true:=by assumption
  have wl:D 8=true:=by assumption
  clear r c9 cX cZ c4 cY c8 cB df dK;obtain ⟨_,Z⟩:=U KO;rw [KO,Kt,JF,wl] at a;refine bz (by omega) ?_;refine ⟨⟨j+1,N,Ls++[M],css++[l],a0,rfl,?_,?_⟩,by simp [intOf]; omega⟩
  ·rw [uH vs ks j a0];exact hg.snoc Z Z.length
  ·simp only [oc,eP,kH,cS,cG];refine a.sub ?_;simp only [aH];rw [<- d4];exact ((((ii _ _).cons_cons _).cons_cons _).cons_cons _).cons _
 ·have:j=ks.length:=by omega
  subst this;rw [mS] at hg;obtain ⟨va,vn,vc,b5⟩:=a.rowSlice 2 rfl;have b9:p.oneCell'=true:=by rw [b5]; rfl
  refine au a 1 ad rfl rfl ?_;refine al a 0 rfl ad rfl rfl ?_ fun w' a=>?_
  ·intro u hu;have b1:u∈([.int .i64 k,.int .i64 n,.string s,p]:List Value):=hu;simp at b1;rcases b1 with rfl|rfl|rfl|rfl <;> first|rfl|exact b9
  refine a5 a 0 ad rfl rfl ?_;have a:Inv w [] ([]++(ax p ac 4 css::aS Ls.flatten)) S w':=a.sub (fF [_,_] _);obtain ⟨L,Z,a⟩:=Inv.rowTree a hg;exact ⟨_,_,_,rfl,a,Ext.refl _ _ _,rfl,_,L,rfl,rfl,TrT.iff.2 ⟨p,rfl,h1,h2,hs,Z⟩⟩
theorem p7 {j:List T} {S:af} {v:Value} (h:RdSl S 4 (RdT S) v j) (hw:j.length+wL j<=1048577):Tri Tryz.prog u7 [v] [] S (Hk 4 TrT S (gc (dp j []) j)):=by
 intro w a;have D:=h.le;simp only [maxLen] at D;have G:=DM j;have V:=uX j [];simp only [cd] at V;refine kM.2 ?_;dsimp only[kM,aG];refine Run.call0 A7 AQ a (zf h (by omega)) fun v1 I' S w'=>?_;rintro ⟨rfl,rfl⟩ _ a;have J:(dp j []).length<=1000000000:=by omega
 generalize dp j []=vs at a J ⊢;refine aF a H9 fun b3 w' a=>?_;have m:v1.cells=#[v1]/\v1.oneCell'=true:=by
  have:=a.its (nz v1 vs) (by simp);rcases this.2 with ⟨rfl,_⟩|⟨g,cap,a3,rfl,_⟩ <;> exact ⟨rfl,rfl⟩
 refine di a 1 (n:=1) (by rw [m.1]; rfl) (by rw [fi]; rfl) rfl (u6 rfl) (by rw [m.1]; simpa using m.2) fun w' a=>?_;have Y:bx (Value.slice none 0 0).cells 0 v1.cells.toList=#[v1]:=by
  rw [m.1]; rfl
 have a:Inv w [] [nz v1 vs,.blk b3 (.cells #[v1] la)] S w':=by
  have:=a;simp only [gC,ss] at this;rw [Y] at this;exact this
 have a:=a.perm (M:=[.blk b3 (.cells #[v1] la)]++[nz v1 vs]) (List.Perm.swap _ _ _);obtain ⟨S1,B,C,a,_⟩:=Inv.lend (A:=[_]) a;obtain ⟨a,l⟩:=Inv.publishLast (L:=[]) a;have hb:jn S1 b3 (.cells #[v1] la) b3=some (.cells #[v1] la):=by simp [jn]
 generalize jn S1 b3 (.cells #[v1] la)=S2 at a l hb;have Z:=C.ints.mono l fun _ _ h=>h;have q:=B.trans l;have h:=h.mono q fun _ _ h=>h.mono q;refine aL h ao ?_;refine ⟨fun i t w'=>∃ (k:Nat) (Ls:List aU) (css:List (List Value)),k<=j.length/\i=.int .i64 k/\Grown 4 TrT Ls css (gc vs (j.take k))/\Inv w [] (ax t ac 4 css::aS Ls.flatten) S2 w',
  fun i _ _=>j.length - (intOf i).toNat,⟨0,[],[],aQ _,rfl,Grown.nil _ _,a.rowNil ac 4⟩,?_⟩
 intro a0 _ t4 _ _ _ _ _ _ _ _ _ _ w';rintro ⟨k,Ls,css,hk,rfl,O,a⟩;refine cq ?_;refine aR (fun U=>?_) (fun U=>?_)
 ·have o:k<j.length:=by omega
  have a1:(j.take k).length=k:=by simp; omega
  have G:=O.hc;rw [qf] at G;have hm:=cr o;have a2:=ji hm;refine dx a h ao ad o (fun _ _=>RdT.length) fun cs p=>?_;have N:=p.length;refine aF a aZ fun b6 w' a=>?_;have a:=a.perm (M:=.blk b6 _::(ax t4 ac 4 css::aS Ls.flatten)) (dy (l₁:=[_]));refine al a 0 rfl ad (by simpa using N) rfl (by simpa using p.one) fun w' a=>?_;refine au a 0 ad rfl (by simpa using N) ?_;have a:Inv w [] (ax t4 ac 4 css::aS Ls.flatten) S2 w':=a.sub (jz _ _);refine uZ ?_;refine Run.call0 pX oK a (vW vs J _ S2 cs b3 v1 la p hb Z (by omega)) fun v' I' S' w'=>?_;rintro ⟨rfl,u,L,rfl,rfl,r⟩ _ a;refine fj a 0 u bw (by omega) (by omega) rfl r.length r.one (by omega) (by omega) fun v' w' a=>?_;refine bz (by omega) ?_;refine ⟨⟨k+1,Ls++[L],css++[u],o,rfl,?_,?_⟩,by simp [intOf]; omega⟩
  ·rw [uH vs j k o];exact O.snoc r r.length
  ·simp only [oc,eP,kH,cS,cG];exact a
 ·have:k=j.length:=by omega
  subst this;rw [mS] at O;obtain ⟨L,r,a⟩:=Inv.rowTree (A:=[]) a O;exact ⟨_,_,_,rfl,a.less q,Ext.refl _ _ _,rfl,_,rfl,r⟩
end
end
section
open Go Go.RowKit
mutual
theorem En (vs:List Int):∀ t:T,wT (dd vs t)=wT t
 | .mk k n s ks=>by rw [dd,wT,wT,qJ,zE vs ks]
theorem zE (vs:List Int):∀ a:List T,wL (eR vs a)=wL a
 | []=>rfl
 | t::a=>by rw [eR,wL,wL,En vs t,zE vs a]
end
theorem Jh (vs:List Int) (c:C):wC (wD vs c)=wC c:=by
 simp only [wC,wD,En,zE,qJ]
section
attribute [local irreducible] Run CondV aw aI
theorem BL {c:C} {S:af} {cs:List Value} (h:RdC S cs c) (O:dp (c.head::c.body) []=bu c/\kL (bu c) c.head=dd (bu c) c.head/\gc (bu c) c.body=eR (bu c) c.body) (hw:wC c<=1048576) :
  Tri Tryz.prog oR [.agg cs.toArray] [] S (In (wD (bu c) c)):=by
 intro w g;obtain ⟨e1,e2,e3⟩:=O;obtain ⟨hd,ks,rfl,h1,h2⟩:=h;have Y:=h1;obtain ⟨kv,rfl,g1,g2,g3,g4⟩:=RdT.iff.1 h1;have Z:=h2.le;simp only [maxLen] at Z;unfold wC at hw;refine mM.2 ?_;dsimp only[mM,aG];refine bB g fun b1 w' g=>?_;refine aF g bZ fun b2 w' g=>?_;refine ay cn ?_;refine ew g 0 [.int .i64 c.head.kind,.int .i64 c.head.n,.string c.head.name,kv] ad rfl rfl FA ?_;refine dI g bw (by simp [Value.cells]) (by omega) (by omega) fun b7 w' g=>?_;refine ag g 0 rfl aT ar rfl ?_;have g:=Inv.closeRow (A:=[_,_]) (cap:=1) (k:=4) (n:=1) g (by omega) (by simp [maxLen]) (by simp [Value.cells]);refine gq g 2 (css:=[[.int .i64 c.head.kind,.int .i64 c.head.n,.string c.head.name,kv]]) bw (by omega) rfl h2 (fun _ _=>RdT.length) (fun _ _=>RdT.one) (by simp; omega) (by omega) fun v' w' a4 hR g=>?_;have hR:=(Rows.one Y Y.length).append hR;obtain ⟨S1,N,a0,g,_⟩:=Inv.lend (A:=[_,_]) g;have a2:RdSl S1 4 (RdT S1) v' (c.head::c.body):=(RowRd.rows hR a0).mono (Sle.refl _) fun _ _ h=>h.mono N;refine Run.call0 ta s3 g (p7 a2 (by simp only [wL,bg]; omega)) fun a7 I' S' w'=>?_;rintro ⟨rfl,M,rfl,hT⟩ _ g;obtain ⟨S2,g,hE,V⟩:=(g.less N).pubExt;have hr:=hT.rd V fun _ _ _ hi h=>h.rd hi;rw [e1,gc,e2,e3] at hr;have a3:=fun (v:Value) (h:RdSl S2 4 (RdT S2) v ((dd (bu c) c.head::eR (bu c) c.body).drop 1))=>h;obtain ⟨b,o,cap,cc,E,fz,rfl,hS,J⟩:=hr.at_ (i:=0) (by simp);rw [pb] at J;obtain ⟨q,ec,f1,f2,f3,f4⟩:=RdT.iff.1 J;rw [ec] at J;obtain ⟨ka,kn,kc,a1⟩:∃ a n m,q=.slice a n m:=by
  obtain ⟨a,m,e,_⟩:=f4;exact ⟨_,_,_,e⟩
 refine ⟨fun D te Ds Is Jz JS Hm np w_=>Fx D 0 [np=.slice (some ⟨b,o,none⟩) ((eR (bu c) c.body).length+1) cap,Hm=.pointer (some ⟨b,o+0 * 4,none⟩),JS=.agg #[.int .i64 (dd (bu c) c.head).kind,.int .i64 (dd (bu c) c.head).n,.string (dd (bu c) c.head).name,q],Jz=.slice (some ⟨b,o,none⟩) ((eR (bu c) c.body).length+1) cap,RdSl S2 4 (RdT S2) Is (eR (bu c) c.body),RdSl S2 4 (RdT S2) Ds (eR (bu c) c.body),∃ t,te=.agg #[.int .i64 (dd (bu c) c.head).kind,.int .i64 (dd (bu c) c.head).n,.string (dd (bu c) c.head).name,q,t]/\RdSl S2 4 (RdT S2) t (eR (bu c) c.body),True]/\∃ B2,B2.size=5/\(D 7=true->∃ t,B2=#[.int .i64 (dd (bu c) c.head).kind,.int .i64 (dd (bu c) c.head).n,.string (dd (bu c) c.head).name,q,t]/\RdSl S2 4 (RdT S2) t (eR (bu c) c.body))/\Inv w [] [.blk b1 (.cells #[.int .i64 c.head.kind,.int .i64 c.head.n,.string c.head.name,kv,ks] ae),.blk b2 (.cells B2 ae)] S2 w_,⟨Fx.nil _ _,⟨_,rfl,aP,g.draw⟩⟩,⟨?_,?_,?_,?_,?_,?_,?_,?_,trivial⟩,?_⟩;all_goals (intro D bm; intros; rename_i te Ds Is Jz JS Hm np w_ U; have p:=U.1; obtain ⟨⟨c9,cX,cZ,c4,cY,c8,cB,df,_⟩,⟨B2,B,G,g⟩⟩:=U)
 ·exact ⟨p.set 0 rfl,⟨B2,B,G,g⟩⟩
 ·obtain rfl:=c9 ‹_›;refine aN (i:=0) ao (by simp) ?_;exact ⟨p.set 1 rfl,⟨B2,B,G,g⟩⟩
 ·obtain rfl:=cX ‹_›;refine dC (cs:=[.int .i64 (dd (bu c) c.head).kind,.int .i64 (dd (bu c) c.head).n,.string (dd (bu c) c.head).name,q]) ad rfl (fun j v hj=>by rw [g.cellS hS]; exact aX ec j v hj) ?_;exact ⟨p.set 2 rfl,⟨B2,B,G,g⟩⟩
 ·exact ⟨p.set 3 rfl,⟨B2,B,G,g⟩⟩
 ·obtain rfl:=c4 ‹_›;refine Ax (l:=1) ao hr (by simp) fun t u=>?_;rw [List.drop_succ_cons,dk] at u;exact ⟨p.set 4 (by first|assumption|trivial),⟨B2,B,G,g⟩⟩
 ·have CU:=cY ‹_›;obtain ⟨r,a8,hp⟩:=DV CU;refine Run.callPure uT vK g hp fun w_ g=>?_;exact ⟨p.set 5 (by first|assumption|trivial),⟨B2,B,G,g⟩⟩
 ·obtain rfl:=cZ ‹_›;have FU:=c8 ‹_›;refine mC ?_ ?_
  ·obtain ⟨a,m,e,_⟩:=FU;exact ⟨_,_,_,e⟩
  have a6:∃ t,Value.agg #[.int .i64 (dd (bu c) c.head).kind,.int .i64 (dd (bu c) c.head).n,.string (dd (bu c) c.head).name,q,Ds]=.agg #[.int .i64 (dd (bu c) c.head).kind,.int .i64 (dd (bu c) c.head).n,.string (dd (bu c) c.head).name,q,t]/\RdSl S2 4 (RdT S2) t (eR (bu c) c.body):=⟨_,rfl,FU⟩
  exact ⟨p.set 6 (by first|assumption|trivial),⟨B2,B,G,g⟩⟩
 ·have zK:=cB ‹_›;obtain ⟨t,rfl,u⟩:=zK;obtain ⟨a,m,e,_⟩:=id u;subst e;refine al g 1 rfl aC rfl B (by simp [Value.oneCell',a1]) fun w_ g=>?_;obtain ⟨B2,hq⟩:∃ B2,B2=(#[.int .i64 (dd (bu c) c.head).kind,.int .i64 (dd (bu c) c.head).n,.string (dd (bu c) c.head).name,q,.slice a (eR (bu c) c.body).length m]:Array Value):=⟨_,rfl⟩
  rw [<- hq] at g;have B:B2.size=5:=by rw [hq]; rfl
  have G:=fun (_:aB D 7 7=true)=>(⟨_,hq,u⟩:∃ t,B2=#[.int .i64 (dd (bu c) c.head).kind,.int .i64 (dd (bu c) c.head).n,.string (dd (bu c) c.head).name,q,t]/\RdSl S2 4 (RdT S2) t (eR (bu c) c.body))
  exact ⟨p.set 7 trivial,⟨B2,B,G,g⟩⟩
 obtain ⟨rfl,rfl,rfl,rfl,CU,FU,zK,_,_⟩:=p.all;have sW:D 7=true:=by assumption
 clear p c9 cX cZ c4 cY c8 cB df;obtain ⟨t,rfl,u⟩:=G sW;refine a5 g 1 aC rfl rfl ?_;exact ⟨_,_,_,rfl,g.pick [false,false],hE,rfl,_,rfl,⟨_,_,rfl,J,u⟩⟩
theorem uR {c:C} {S:af} {cs:List Value} (h:RdC S cs c) (a:a4 c=true) (g:wC c<=1048576):Tri Tryz.prog oR [.agg cs.toArray] [] S (In (wD (bu c) c)):=BL h (CT a) g
abbrev Gl (c:C) (ok:Bool):Value->List Item->af->Prop:=fun v I' _=>∃ cs L,v=.tuple #[.agg cs.toArray,.bool ok]/\I'=aS L/\TrC L cs c
theorem TrC.zero:TrC [] [.int .i64 0,.int .i64 0,.string ⟨#[]⟩,.slice none 0 0,.slice none 0 0] ⟨⟨0,0,⟨#[]⟩,[]⟩,[]⟩:=
 ⟨[.int .i64 0,.int .i64 0,.string ⟨#[]⟩,.slice none 0 0],.slice none 0 0,[],[],rfl,rfl,TrT.iff.2 ⟨_,rfl,by simp [inI,T.kind],by simp [inI,T.n],by rw [T.name]; decide +kernel,TrSl.nil (by simp [maxLen])⟩,TrSl.nil (by simp [maxLen])⟩
theorem km {c:C} {S:af} {cs:List Value} (h:RdC S cs c) (m:wC c<=1048576):Tri Tryz.prog nr [.agg cs.toArray] [] S (Gl (GZ c) (a4 c)):=by
 intro w a;have o:=h;have g:=h.length;have r:=h.one;refine gT.2 ?_;dsimp only[gT,aG];refine bB a fun u w' a=>?_;refine aF a bZ fun B w' a=>?_;refine au a 0 aC rfl (by simpa [Value.cells] using g) ?_;refine Run.callPure jq jE a (iD o) fun w' a=>?_;refine dD ?_;rw [GZ];cases t:a4 c
 ·refine aE (fun _=>?_) (fun l=>by cases l);refine uU ?_;refine al a 1 rfl aC rfl rfl (by simp [Value.oneCell']) fun w' a=>?_;refine a5 a 1 aC rfl rfl ?_;exact ⟨_,_,_,rfl,a.pick [false,false],Ext.refl _ _ _,_,[],rfl,rfl,TrC.zero⟩
 refine aE (fun l=>by cases l) (fun _=>?_);refine au a 0 aC rfl (by simpa [Value.cells] using g) ?_;refine Run.call0E wE vR a (uR o t m) fun v I' S' w'=>?_;rintro ⟨rfl,p,rfl,hR⟩ q a;refine Run.call0 uS tO a (sV hR (by rw [Jh]; exact m)) fun v I' S2 w'=>?_;rintro ⟨rfl,j,L,rfl,rfl,i⟩ _ a;refine al a 1 rfl aC (by simpa using i.length) rfl (by simpa using i.one) fun w' a=>?_;refine a5 a 1 aC rfl (by simpa using i.length) ?_;have a:Inv w [] (aS L) S2 w':=a.sub (fF [_,_] _);exact ⟨_,_,_,rfl,a,q,j,L,rfl,rfl,i⟩
end
end
section
open Go Go.RowKit
mutual
def okU (N:Nat):T->Prop
 | .mk k n s ks=>(k=1 ∨ k=2 ∨ k=3)/\(k=1->0<=n/\n<N/\s=emptyB/\ks=[])/\gh N ks/\s.size<=6
def gh (N:Nat):List T->Prop
 | []=>True
 | t::ts=>okU N t/\gh N ts
end
mutual
def vT:T->List Nat
 | .mk k n _ ks=>if k=1 then [n.toNat] else vTL ks
def vTL:List T->List Nat
 | []=>[]
 | t::ts=>vT t++vTL ts
end
theorem fO {N:Nat}:∀ {a:List T},gh N a->∀ t∈a,okU N t
 | t::a,h,x,g=>by
  rw [gh] at h;rcases fm.1 g with rfl|g
  ·exact h.1
  ·exact fO h.2 x g
theorem okU.kids {N:Nat} {t:T} (h:okU N t):gh N t.kids:=by cases t; rw [okU] at h; exact h.2.2.1
theorem okU.var {N:Nat} {t:T} (h:okU N t) (hk:t.kind=1):0<=t.n/\t.n<N/\t.name=emptyB/\t.kids=[]:=by cases t; rw [okU] at h; exact h.2.1 hk
theorem okU.three {N:Nat} {t:T} (h:okU N t):t.kind=1 ∨ t.kind=2 ∨ t.kind=3:=by cases t; rw [okU] at h; exact h.1
theorem okU.kind {N:Nat} {t:T} (h:okU N t):t.kind≠0:=by have:=h.three; omega
mutual
def wB:T->Prop
 | .mk _ _ _ ks=>ks.length<=1048576/\wBL ks
def wBL:List T->Prop
 | []=>True
 | t::ts=>wB t/\wBL ts
end
theorem Ep:∀ {a:List T},wBL a->∀ t∈a,wB t
 | t::a,h,x,g=>by
  rw [wBL] at h;rcases fm.1 g with rfl|g
  ·exact h.1
  ·exact Ep h.2 x g
theorem IR (t:T):wB t↔t.kids.length<=1048576/\wBL t.kids:=by cases t; rw [wB]; rfl
def look (st:bN) (t:T):Option T:=if t.kind=1 then (st[t.n.toNat]?).join else none
theorem EZ {st:bN} {t u:T}:look st t=some u↔t.kind=1/\st[t.n.toNat]?=some (some u):=by
 unfold look;split
 ·rename_i h
  simp only [Option.join_eq_some_iff];exact ⟨fun e=>⟨h,e⟩,fun e=>e.2⟩
 ·rename_i h
  simp [h]
theorem Ff {st:bN} {t:T}:look st t=none↔(t.kind=1->st[t.n.toNat]?=none ∨ st[t.n.toNat]?=some none):=by
 unfold look;split
 ·rename_i h
  rw [Option.join_eq_none_iff];constructor
  ·intro e _;rcases e with e|e
   ·exact .inl e
   ·exact .inr e
  ·intro e;rcases e h with e|e
   ·exact .inl e
   ·exact .inr e
 ·rename_i h
  simp [h]
inductive fu (st:bN):T->T->Prop
 | stop {t:T}:look st t=none->fu st t t
 | step {t u v:T}:look st t=some u->fu st u v->fu st t v
inductive Rch (st:bN):Nat->Nat->Prop
 | refl (m:Nat):Rch st m m
 | step {m k n:Nat} {u:T}:st[m]?=some (some u)->k∈vT u->Rch st k n->Rch st m n
theorem Rch.trans {st:bN} {a b c:Nat} (h:Rch st a b) (g:Rch st b c):Rch st a c:=by
 induction h with
 | refl=>exact g
 | step i j _ l=>exact .step i j (l g)
def zu (st:bN) (n:Nat) (t:T):Prop:=∃ m∈vT t,Rch st m n
structure Good (N:Nat) (st:bN):Prop where
 len:st.length=N
 ok:∀ t,some t∈st->okU N t
 w:∀ t,some t∈st->wB t
 rk:∃ r:Nat->Nat,∀ (n:Nat) (u:T),st[n]?=some (some u)->∀ m∈vT u,r m<r n
theorem Good.look_ok {N:Nat} {st:bN} (h:Good N st) {t u:T} (a:look st t=some u):okU N u/\wB u:=by
 have:=fw (EZ.1 a).2;exact ⟨h.ok u this,h.w u this⟩
theorem iQ {N:Nat} {st:bN} {t v:T} (h:Good N st) (a:fu st t v) (g:okU N t/\wB t):okU N v/\wB v:=by
 induction a with
 | stop=>exact g
 | step i _ j=>exact j (h.look_ok i)
theorem xu {st:bN} {t v:T} (a:fu st t v):look st v=none:=by
 induction a with
 | stop h=>exact h
 | step _ _ g=>exact g
def unb:bN->Nat
 | []=>0
 | none::st=>unb st+1
 | some _::st=>unb st
theorem yX:∀ (st:bN) (n:Nat) (t:T),st[n]?=some none->unb (st.set n (some t))+1=unb st
 | [],n,t,h=>by simp at h
 | x::st,0,t,h=>by
  simp only [xK,a9] at h;subst h;rfl
 | x::st,n+1,t,h=>by
  have a:st[n]?=some none:=by simpa using h
  have:=yX st n t a;cases x <;> simp only [List.set_cons_succ,unb] <;> omega
open Classical in
theorem Good.set {N:Nat} {st:bN} (h:Good N st) {n:Nat} {t:T} (hn:st[n]?=some none) (D:okU N t) (G:wB t) (J:¬ zu st n t):Good N (st.set n (some t)):=by
 have q:n<st.length:=(gX.1 hn).1;refine ⟨by rw [ic]; exact h.len,fun u a=>?_,fun u a=>?_,?_⟩
 ·rcases EG a with a|a
  ·exact h.ok u a
  ·rw [a9] at a;rw [a]; exact D
 ·rcases EG a with a|a
  ·exact h.w u a
  ·rw [a9] at a;rw [a]; exact G
 ·obtain ⟨r,O⟩:=h.rk;have o:∀ l:List Nat,∃ M,∀ m∈l,r m<=M:=by
   intro l;induction l with
   | nil=>exact ⟨0,by simp⟩
   | cons x l U=>
    obtain ⟨M,o⟩:=U;refine ⟨M+r x,fun m i=>?_⟩;rcases fm.1 i with rfl|i
    ·omega
    ·have:=o m i; omega
  obtain ⟨M,o⟩:=o (vT t);refine ⟨fun m=>if Rch st m n then r m+M+1 else r m,fun k u g m i=>?_⟩;by_cases p:n=k
  ·subst p;rw [Ga q,a9,a9] at g;subst g;have B:¬ Rch st m n:=fun e=>J ⟨m,i,e⟩;have C:=o m i;simp only [ah B,ai (Rch.refl (st:=st) n)];omega
  ·rw [F0 p] at g;have B:=O k u g m i;by_cases j:Rch st m n
   ·have C:Rch st k n:=.step g i j;simp only [ai j,ai C];omega
   ·simp only [ah j];split <;> omega
inductive Job where
 | one (a b:T)
 | list (xs ys:List T)
inductive Uni:bN->Job->Bool->bN->Prop
 | same {st:bN} {a b a' b':T}:fu st a a'->fu st b b'->a'.kind=1->b'.kind=1->a'.n=b'.n->Uni st (.one a b) true st
 | bindA {st:bN} {a b a' b':T}:fu st a a'->fu st b b'->a'.kind=1->¬ (b'.kind=1/\a'.n=b'.n)->¬ zu st a'.n.toNat b'->Uni st (.one a b) true (st.set a'.n.toNat (some b'))
 | occA {st:bN} {a b a' b':T}:fu st a a'->fu st b b'->a'.kind=1->¬ (b'.kind=1/\a'.n=b'.n)->zu st a'.n.toNat b'->Uni st (.one a b) false st
 | bindB {st:bN} {a b a' b':T}:fu st a a'->fu st b b'->a'.kind≠1->b'.kind=1->¬ zu st b'.n.toNat a'->Uni st (.one a b) true (st.set b'.n.toNat (some a'))
 | occB {st:bN} {a b a' b':T}:fu st a a'->fu st b b'->a'.kind≠1->b'.kind=1->zu st b'.n.toNat a'->Uni st (.one a b) false st
 | clash {st:bN} {a b a' b':T}:fu st a a'->fu st b b'->a'.kind≠1->b'.kind≠1->Fc a' b'=false->Uni st (.one a b) false st
 | kids {st st':bN} {a b a' b':T} {r:Bool}:fu st a a'->fu st b b'->a'.kind≠1->b'.kind≠1->Fc a' b'=true->Uni st (.list a'.kids b'.kids) r st'->Uni st (.one a b) r st'
 | nil {st:bN}:Uni st (.list [] []) true st
 | stop {st st':bN} {a b:T} {xs ys:List T}:Uni st (.one a b) false st'->Uni st (.list (a::xs) (b::ys)) false st'
 | go {st st1 st':bN} {a b:T} {xs ys:List T} {r:Bool}:Uni st (.one a b) true st1->Uni st1 (.list xs ys) r st'->Uni st (.list (a::xs) (b::ys)) r st'
def okJ (N:Nat):Job->Prop
 | .one a b=>(okU N a/\wB a)/\(okU N b/\wB b)
 | .list xs ys=>(∀ a∈xs,okU N a/\wB a)/\(∀ b∈ys,okU N b/\wB b)/\xs.length=ys.length
theorem tm {N:Nat} {t:T} (h:okU N t/\wB t):∀ x∈t.kids,okU N x/\wB x:=by
 intro x a;exact ⟨fO h.1.kids x a,Ep ((IR t).1 h.2).2 x a⟩
theorem zQ {a b:T} (h:Fc a b=true):a.kids.length=b.kids.length:=by
 rw [Fc] at h;simp only [bJ,bQ] at h;exact h.2.2.2
theorem Al {N:Nat} {st:bN} (h:Good N st) {a:T} (hk:a.kind=1) (g:look st a=none) (i:okU N a):st[a.n.toNat]?=some none:=by
 obtain ⟨j,l,_⟩:=i.var hk;rcases Ff.1 g hk with e|e
 ·have:=List.getElem?_eq_none_iff.1 e;have:=h.len;omega
 ·exact e
theorem Uni.good {N:Nat} {st i:bN} {j:Job} {r:Bool} (M:Uni st j r i):Good N st->okJ N j->Good N i/\(i=st ∨ unb i<unb st):=by
 induction M with
 | same=>exact fun h _=>⟨h,.inl rfl⟩
 | occA=>exact fun h _=>⟨h,.inl rfl⟩
 | occB=>exact fun h _=>⟨h,.inl rfl⟩
 | clash=>exact fun h _=>⟨h,.inl rfl⟩
 | nil=>exact fun h _=>⟨h,.inl rfl⟩
 | bindA l m hk t u=>
  rename_i G J
  intro h g;have p:=iQ h l g.1;have o:=iQ h m g.2;have hf:=Al h hk (xu l) p.1;have:=yX _ _ J hf;exact ⟨h.set hf o.1 o.2 u,.inr (by omega)⟩
 | bindB l m t hk u=>
  rename_i G J
  intro h g;have p:=iQ h l g.1;have o:=iQ h m g.2;have hf:=Al h hk (xu m) o.1;have:=yX _ _ G hf;exact ⟨h.set hf p.1 p.2 u,.inr (by omega)⟩
 | kids l m _ _ U _ B=>
  intro h g;exact B h ⟨tm (iQ h l g.1),tm (iQ h m g.2),zQ U⟩
 | stop _ B=>
  intro h g;exact B h ⟨g.1 _ (cQ ..),g.2.1 _ (cQ ..)⟩
 | go _ _ C D=>
  intro h g;obtain ⟨p,o⟩:=C h ⟨g.1 _ (cQ ..),g.2.1 _ (cQ ..)⟩;obtain ⟨O,q⟩:=D p ⟨fun a l=>g.1 a (c7 _ l),fun b m=>g.2.1 b (c7 _ m),by have:=g.2.2; simpa using this⟩;refine ⟨O,?_⟩;rcases o with rfl|o
  ·exact q
  ·rcases q with rfl|q
   ·exact .inr o
   ·exact .inr (by omega)
end
section
open Go Go.RowKit
def KnU (S:af) (c:Array Value) (st:bN):Prop:=st.length * 4<=c.size/\∀ i (h:i<st.length),(st[i]=none->bd c (i * 4) 4=EO)/\(∀ t,st[i]=some t->RdT S (bd c (i * 4) 4) t)
theorem KnU.set {S:af} {c:Array Value} {st:bN} (h:KnU S c st) {n:Nat} (hn:n<st.length) {cs:List Value} {u:T} (g:RdT S cs u):KnU S (bx c (n * 4) cs) (st.set n (some u)):=by
 have a:=g.length;have m:=h.1;have p:st.length * 4<=(bx c (n * 4) cs).size:=by rw [ft _ _ _ (by omega)]; exact m
 refine ⟨by rw [ic]; exact p,fun i j=>?_⟩;rw [ic] at j;by_cases e:n=i
 ·subst e;rw [Bb];refine ⟨fun h=>(by cases h),fun t l=>?_⟩;simp only [a9] at l;subst l;have:=dQ (c:=c) (o:=n * 4) (vs:=cs) (by omega);rw [a] at this;rw [this];exact g
 ·rw [D9 e,fc (by omega) (by omega)];exact h.2 i j
theorem KnU.mono {S S':af} {c:Array Value} {st:bN} (h:KnU S c st) (g:Sle S S'):KnU S' c st:=⟨h.1,fun i a=>⟨(h.2 i a).1,fun t j=>((h.2 i a).2 t j).mono g⟩⟩
section
attribute [local irreducible] Run CondV aw aI
end
theorem Hw:∀ (N:Nat) (l:List Int),l.Nodup->(∀ x∈l,0<=x/\x<N)->l.length<=N:=by
 intro N l g h;have a:∀ x∈l,x∈(List.range N).map (fun i:Nat=>(i:Int)):=fun x j=>by
  obtain ⟨m,o⟩:=h x j;exact mF.2 ⟨x.toNat,List.mem_range.2 (by omega),by omega⟩
 have:=List.Nodup.length_le_of_subset g a;simpa using this
section
attribute [local irreducible] Run CondV aw aI
end
end
section
open Go Go.RowKit

def KnownM (S:af) (es:Array MapEntry) (st:bN):Prop:=
 (∀ e∈es.toList,∃ (n:Nat) (t:T) (cs:List Value),e.key=.int .i64 n/\e.val=.agg cs.toArray/\RdT S cs t/\st[n]?=some (some t))/\(∀ (n:Nat) (t:T),st[n]?=some (some t)->∃ e∈es.toList,e.key=.int .i64 n)/\(es.toList.map (·.key)).Nodup
theorem KnownM.find {S:af} {i:Array MapEntry} {st:bN} (h:KnownM S i st) (n:Nat) :
  (∃ j v t cs,Instr.findNow (.int .i64) (.int .i64 n) i.toList 0=some (some (j,v))/\v=.agg cs.toArray/\RdT S cs t/\st[n]?=some (some t)) ∨
  ((∀ t,st[n]?≠some (some t))/\Instr.findNow (.int .i64) (.int .i64 n) i.toList 0=some none):=by
 rcases iN (n:=n) i.toList 0 (fun e g=>by obtain ⟨m,_,_,hk,_⟩:=h.1 e g; exact ⟨m,hk⟩) with ⟨j,e,g,hk,hf⟩|⟨hk,hf⟩
 ·obtain ⟨m,t,cs,a,o,hR,p⟩:=h.1 e g;rw [hk] at a;simp only [Value.int.injEq,qt] at a;have:n=m:=by omega
  subst this;exact .inl ⟨j,e.val,t,cs,hf,o,hR,p⟩
 ·refine .inr ⟨fun t l=>?_,hf⟩;obtain ⟨e,g,a⟩:=h.2.1 n t l;exact hk e g a
theorem KnownM.push {S:af} {p:Array MapEntry} {st:bN} (h:KnownM S p st) {n:Nat} (hn:n<st.length) (i:∀ t,st[n]?≠some (some t)) {cs:List Value} {u:T} (B:RdT S cs u) (C:Nat) :
  KnownM S (p.push { key:=.int .i64 n,val:=.agg cs.toArray,born:=C }) (st.set n (some u)):=by
 refine ⟨fun e g=>?_,fun m t q=>?_,?_⟩
 ·rw [DN] at g;rcases dh.1 g with g|g
  ·obtain ⟨m,t,j,hk,G,hR,l⟩:=h.1 e g;refine ⟨m,t,j,hk,G,hR,?_⟩;have:n≠m:=fun e=>i t (by rw [e]; exact l);rw [F0 this];exact l
  ·simp at g;subst g;exact ⟨n,u,cs,rfl,rfl,B,by rw [Ga hn]⟩
 ·rw [DN];by_cases e:n=m
  ·exact ⟨_,kG _ (fl.2 rfl),by rw [e]⟩
  ·rw [F0 e] at q;obtain ⟨x,o,hk⟩:=h.2.1 m t q;exact ⟨x,iF _ o,hk⟩
 ·rw [DN,ya,tN];refine ⟨h.2.2,by simp,fun a D b r e=>?_⟩;simp only [List.map_cons,List.map_nil,fl] at r;subst r;obtain ⟨x,o,rfl⟩:=mF.1 D;obtain ⟨m,t,j,hk,_,_,l⟩:=h.1 x o;rw [hk] at e;simp only [Value.int.injEq,qt] at e;have:m=n:=by omega
  subst this;exact i t l
section
attribute [local irreducible] Run CondV aw aI
end
end
section
open Go Go.RowKit

theorem Ex:∀ {a:List T},(∀ t∈a,okV t)->s4 a
 | [],_=>by simp [s4]
 | t::a,h=>by rw [s4]; exact ⟨h t (cQ ..),Ex fun u g=>h u (c7 _ g)⟩
theorem D2:∀ {a:List T},(∀ t∈a,okK t)->yM a
 | [],_=>by simp [yM]
 | t::a,h=>by rw [yM]; exact ⟨h t (cQ ..),D2 fun u g=>h u (c7 _ g)⟩
theorem FE {c:C} (h:a4 c=true):(okV c.head/\okK c.head)/\s4 c.body/\yM c.body:=by
 rw [a4] at h;simp only [bJ,gR] at h;obtain ⟨_,i,j,_⟩:=h;have g:∀ t∈c.body,okV t/\okK t:=fun t a=>by
  have:=i t a;rw [dF,bJ] at this;exact AF this.1
 exact ⟨AF j,Ex fun t a=>(g t a).1,D2 fun t a=>(g t a).2⟩
section
variable {P:Program} {w w0:World} {X:List Nat} {L:List Item} {S:af} {K:Value->World->Prop}
attribute [local irreducible] Run CondV aw aI
end
section
attribute [local irreducible] Run CondV aw aI
end
end
section
open Go Go.RowKit
mutual
def mvT (f:Int->Int):T->T
 | .mk k n s ks=>.mk k (if k=1 then f n else n) s (mvL f ks)
def mvL (f:Int->Int):List T->List T
 | []=>[]
 | t::ts=>mvT f t::mvL f ts
end
theorem gv (f:Int->Int):∀ a:List T,(mvL f a).length=a.length
 | []=>rfl
 | t::a=>by rw [mvL,bg,bg,gv f a]
theorem EF (f:Int->Int):∀ a:List T,mvL f a=a.map (mvT f)
 | []=>rfl
 | t::a=>by rw [mvL,List.map_cons,EF f a]
mutual
theorem zX (vs:List Int):∀ t:T,dd vs t=mvT (fun n=>pI vs n n 0) t
 | .mk k n s ks=>by rw [dd,mvT,uI vs ks]
theorem uI (vs:List Int):∀ a:List T,eR vs a=mvL (fun n=>pI vs n n 0) a
 | []=>rfl
 | t::a=>by rw [eR,mvL,zX vs t,uI vs a]
end
mutual
theorem DZ {f g:Int->Int} {ws:List Int} (h:∀ n∈ws,f n=g n):∀ t:T,inT ws t->mvT f t=mvT g t
 | .mk k n s ks,hi=>by
  rw [inT] at hi;rw [mvT,mvT,yP h ks hi.2];split
  ·rename_i hk; rw [h n (hi.1 hk)]
  ·rfl
theorem yP {f g:Int->Int} {ws:List Int} (h:∀ n∈ws,f n=g n):∀ a:List T,inL ws a->mvL f a=mvL g a
 | [],_=>rfl
 | t::a,hi=>by
  rw [inL] at hi;rw [mvL,mvL,DZ h t hi.1,yP h a hi.2]
end
theorem Ag:∀ (xs:List Int) (n:Int) (k:Nat),n∈xs->∃ i,xs[i]?=some n/\(cE (σ:=Unit) (fun _ x=>(decide (n=x),())) () xs k).1=((k+i:Nat):Int)
 | x::xs,n,k,h=>by
  rw [cE];by_cases e:n=x
  ·subst e;exact ⟨0,rfl,by simp⟩
  ·have j:n∈xs:=by
    rcases fm.1 h with h|h
    ·exact absurd h e
    ·exact h
   obtain ⟨i,a,g⟩:=Ag xs n (k+1) j;refine ⟨i+1,a,?_⟩;rw [bk e];simp only [sB,if_false];rw [g];omega
theorem ra {xs:List Int} {n:Int} (h:n∈xs):∃ i:Nat,xs[i]?=some n/\nK xs n=(i:Int)/\i<xs.length:=by
 obtain ⟨i,a,g⟩:=Ag xs n 0 h;exact ⟨i,a,by rw [nK,g,ct],(gX.1 a).1⟩
theorem Gw {xs:List Int}:∀ a∈xs,∀ b∈xs,nK xs a=nK xs b->a=b:=by
 intro a h b l e;obtain ⟨i,m,o,_⟩:=ra h;obtain ⟨j,g,p,_⟩:=ra l;have:i=j:=by omega
 subst this;rw [m] at g;exact Option.some.inj g
mutual
theorem xl {f:Int->Int} {ws:List Int} (h:∀ n∈ws,0<=f n/\f n<=25):∀ (t:T) (d:Int),inT ws t->cP t d=true->cP (mvT f t) d=true
 | .mk k n s ks,d,hi,hs=>by
  rw [inT] at hi;rw [cP] at hs;rw [mvT,cP];split at hs
  ·cases hs
  rename_i i
  rw [ah i];rw [bJ] at hs ⊢;refine ⟨?_,xx h ks _ hi.2 hs.2⟩;have a:=hs.1;by_cases hk:k=1
  ·subst hk;have g:=h n (hi.1 rfl);rw [ai rfl];have a:(decide (0<=n) && (decide (n<=25) && (decide (s=emptyB) && decide (ks.length=0))))=true:=a;show (decide (0<=f n) && (decide (f n<=25) && (decide (s=emptyB) && decide ((mvL f ks).length=0))))=true;rw [gv,bb g.1,bb g.2];simp only [bJ] at a ⊢;exact ⟨trivial,trivial,a.2.2⟩
  ·rw [ah hk];unfold dA at a ⊢;simp only [T.kind,T.n,T.name,T.kids,gv] at a ⊢;exact a
theorem xx {f:Int->Int} {ws:List Int} (h:∀ n∈ws,0<=f n/\f n<=25):∀ (a:List T) (d:Int),inL ws a->cK a d=true->cK (mvL f a) d=true
 | [],_,_,_=>rfl
 | t::a,d,hi,hs=>by
  rw [inL] at hi;rw [cK,bJ] at hs;rw [mvL,cK,xl h t d hi.1 hs.1,xx h a d hi.2 hs.2];rfl
end
mutual
theorem yZ (f:Int->Int):∀ t:T,bT (mvT f t)=bT t
 | .mk k n s ks=>by rw [mvT,bT,bT,D5 f ks]
theorem D5 (f:Int->Int):∀ a:List T,bi (mvL f a)=bi a
 | []=>rfl
 | t::a=>by rw [mvL,bi,bi,yZ f t,D5 f a]
end
theorem Cg {f:Int->Int} {ws:List Int} (h:∀ n∈ws,0<=f n/\f n<=25) {t:T} (g:inT ws t) (a:cD t=true):cD (mvT f t)=true:=by
 rw [cD,bJ] at a ⊢;rw [yZ];exact ⟨xl h t 30 g a.1,a.2⟩
theorem z0 (f:Int->Int) (t:T):(mvT f t).kind=t.kind/\(mvT f t).name=t.name/\(mvT f t).kids.length=t.kids.length:=by
 obtain ⟨k,n,s,a⟩:=t;rw [mvT];exact ⟨rfl,rfl,gv f a⟩
theorem HC {f:Int->Int} {ws:List Int} (h:∀ n∈ws,0<=f n/\f n<=25) {t:T} (g:inT ws t) (a:dF t=true):dF (mvT f t)=true:=by
 obtain ⟨i,j,l⟩:=z0 f t;rw [dF,bJ] at a ⊢;refine ⟨Cg h g a.1,?_⟩;have:=a.2;unfold qA fe dM at this ⊢;rw [i,j,l];exact this
theorem Ee {ws:List Int}:∀ {a:List T},inL ws a->∀ t∈a,inT ws t
 | t::a,h,x,g=>by
  rw [inL] at h;rcases fm.1 g with rfl|g
  ·exact h.1
  ·exact Ee h.2 x g
theorem DT {c:C} (h:a4 c=true):wD (bu c) c=⟨mvT (nK (bu c)) c.head,mvL (nK (bu c)) c.body⟩/\inT (bu c) c.head/\inL (bu c) c.body/\(bu c).Nodup:=by
 obtain ⟨g,_,_⟩:=CT h;have a:=pA (c.head::c.body) [];rw [g,inL] at a;have i:(bu c).Nodup:=by rw [<- g]; exact iO _ _ List.nodup_nil
 refine ⟨?_,a.1,a.2,i⟩;have j:∀ n∈bu c,pI (bu c) n n 0=nK (bu c) n:=fun n hn=>qT _ n n 0 hn i;rw [wD,zX,uI,DZ j _ a.1,yP j _ a.2]
mutual
theorem FC:∀ (t:T) (l:List Int),okV t->(∀ m∈l,0<=m/\m<26)->∀ m∈gd t l,0<=m/\m<26
 | .mk k n s ks,l,ho,hl=>by
  rw [okV] at ho;rw [gd];refine qh ks _ ho.2 fun m a=>?_;split at a
  ·rename_i hk
   unfold kY at a;split at a
   ·exact hl m a
   ·rcases dh.1 a with a|a
    ·exact hl m a
    ·have:=ho.1 hk;rw [fl.1 a];omega
  ·exact hl m a
theorem qh:∀ (a:List T) (l:List Int),s4 a->(∀ m∈l,0<=m/\m<26)->∀ m∈dp a l,0<=m/\m<26
 | [],l,_,hl=>hl
 | t::a,l,ho,hl=>by
  rw [s4] at ho;rw [dp];exact qh a _ ho.2 (FC t l ho.1 hl)
end
theorem xy {c:C} (h:a4 c=true):∀ x∈bu c,0<=x/\x<26:=by
 rw [<- (CT h).1];have a:=FE h;exact qh _ [] (by rw [s4]; exact ⟨a.1.1,a.2.1⟩) (by simp)
theorem Bh {c:C} (h:a4 c=true):∀ n∈bu c,0<=nK (bu c) n/\nK (bu c) n<=25:=by
 obtain ⟨_,_,_,j⟩:=DT h;have a:(bu c).length<=26:=by
  refine Hw 26 _ j fun x g=>?_;exact xy h x g
 intro n hn;obtain ⟨i,_,e,l⟩:=ra hn;omega
theorem FK {c:C} (h:a4 c=true):a4 (wD (bu c) c)=true:=by
 obtain ⟨e,o,p,_⟩:=DT h;have m:=Bh h;rw [e];rw [a4] at h ⊢;simp only [bJ,gR] at h ⊢;obtain ⟨q,r,hc,j⟩:=h;refine ⟨by simpa [gv] using q,fun g i=>?_,Cg m o hc,?_⟩
 ·simp only [EF,mF] at i;obtain ⟨l,a,rfl⟩:=i;exact HC m (Ee p l a) (r l a)
 ·obtain ⟨t,u,B⟩:=z0 (nK (bu c)) c.head;unfold fe at j ⊢;simp only [t,u,B];exact j
end
section
open Go Go.RowKit
structure Ist where
 op:Int
 a:Int
 b:Int
 name:ByteArray
deriving DecidableEq
def Ist.cells (x:Ist):List Value:=[.int .i64 x.op,.int .i64 x.a,.int .i64 x.b,.string x.name]
structure CS where
 sl:List Int
 next:Int
 code:List Ist
namespace CS
def emit (s:CS) (x:Ist):CS:=⟨s.sl,s.next,s.code++[x]⟩
def at_ (s:CS) (n:Int):Int:=s.sl[n.toNat]?.getD (-1)
def put (s:CS) (n v:Int):CS:=⟨s.sl.set n.toNat v,s.next,s.code⟩
def inc (s:CS):CS:=⟨s.sl,s.next+1,s.code⟩
end CS
def dJ (s:CS) (t:T):CS:=
 if t.kind=2 then s.emit ⟨6,t.n,0,emptyB⟩
 else if 0<=s.at_ t.n then s.emit ⟨5,s.at_ t.n,0,emptyB⟩
 else ((s.put t.n s.next).emit ⟨4,s.next,0,emptyB⟩).inc
def co (s:CS) (t:T):CS × List (T × Int):=
 if t.kind=3 then ((s.emit ⟨4,s.next,0,emptyB⟩).inc,[(t,s.next)]) else (dJ s t,[])
def bA:CS->List T->CS × List (T × Int)
 | s,[]=>(s,[])
 | s,t::ts=>((bA (co s t).1 ts).1,(co s t).2++(bA (co s t).1 ts).2)
def bD (s:CS) (i:Int) (t:T):CS × List (T × Int):=
 if t.kind=2 then (s.emit ⟨2,t.n,i,emptyB⟩,[])
 else if t.kind=1 then (if 0<=s.at_ t.n then s.emit ⟨1,s.at_ t.n,i,emptyB⟩ else s.put t.n i,[])
 else (s,[(t,i)])
def bG:CS->Int->List T->CS × List (T × Int)
 | s,_,[]=>(s,[])
 | s,i,t::ts=>((bG (bD s i t).1 (i+1) ts).1,(bD s i t).2++(bG (bD s i t).1 (i+1) ts).2)
def eE:Nat->CS->List (T × Int)->CS
 | 0,s,_=>s
 | _+1,s,[]=>s
 | f+1,s,x::q=>eE f (bA (s.emit ⟨3,x.1.kids.length,x.2,x.1.name⟩) x.1.kids).1 (q++(bA (s.emit ⟨3,x.1.kids.length,x.2,x.1.name⟩) x.1.kids).2)
def cM:CS->List T->List Int->CS
 | s,t::ts,v::vs=>cM (if t.kind=3 then s.emit ⟨5,v,0,emptyB⟩ else dJ s t) ts vs
 | s,_,_=>s
mutual
def aY:T->CS->CS × Int
 | .mk _ _ nm ks,s=>(cM (((bE ks s).1.emit ⟨7,ks.length,(bE ks s).1.next,nm⟩).inc) ks (bE ks s).2,(bE ks s).1.next)
def bE:List T->CS->CS × List Int
 | [],s=>(s,[])
 | t::ts,s=>((bE ts (if t.kind=3 then aY t s else (s,-1)).1).1,(if t.kind=3 then aY t s else (s,-1)).2::(bE ts (if t.kind=3 then aY t s else (s,-1)).1).2)
end
def eN (s:CS) (i:Int) (t:T):CS:=
 if t.kind=2 then s.emit ⟨10,t.n,i,emptyB⟩
 else if t.kind=1 then (if 0<=s.at_ t.n then s.emit ⟨9,s.at_ t.n,i,emptyB⟩ else (s.put t.n s.next).inc.emit ⟨8,s.next,i,emptyB⟩)
 else (aY t s).1.emit ⟨9,(aY t s).2,i,emptyB⟩
def dT:CS->Int->List T->CS
 | s,_,[]=>s
 | s,i,t::ts=>dT (eN s i t) (i+1) ts
def fE (s:CS) (g:T):CS:=
 if qA g=true then s.emit ⟨13,0,0,emptyB⟩ else (dT s 0 g.kids).emit ⟨if dM g=true then 12 else 11,g.kids.length,0,g.name⟩
def dP:CS->List T->CS
 | s,[]=>s
 | s,g::gs=>dP (fE s g) gs
def startC:CS:=⟨List.replicate 26 (-1),4,[]⟩
def cU:List (T × Int)->Nat
 | []=>0
 | x::q=>(bT x.1).toNat+cU q
def gU (s:CS) (ks:List T):CS:=eE (cU (bG s 0 ks).2) (bG s 0 ks).1 (bG s 0 ks).2
def jw (c:C):List Ist:=((dP (gU startC c.head.kids) c.body).emit ⟨14,0,0,emptyB⟩).code

section
variable {f:Int->Int} {ws:List Int}
structure RelC (f:Int->Int) (ws:List Int) (s s':CS):Prop where
 next:s'.next=s.next
 code:s'.code=s.code
 len:s.sl.length=26
 len':s'.sl.length=26
 slots:∀ n∈ws,s'.at_ (f n)=s.at_ n
structure nG (f:Int->Int) (ws:List Int):Prop where
 inj:∀ a∈ws,∀ b∈ws,f a=f b->a=b
 rng:∀ a∈ws,0<=a/\a<26
 rng':∀ a∈ws,0<=f a/\f a<26
theorem RelC.emit {s a:CS} (h:RelC f ws s a) (x:Ist):RelC f ws (s.emit x) (a.emit x):=
 ⟨h.next,by show a.code++[x]=s.code++[x]; rw [h.code],h.len,h.len',h.slots⟩
theorem RelC.inc {s a:CS} (h:RelC f ws s a):RelC f ws s.inc a.inc:=
 ⟨by show a.next+1=s.next+1; rw [h.next],h.code,h.len,h.len',h.slots⟩
theorem RelC.put (hf:nG f ws) {s g:CS} (h:RelC f ws s g) {n:Int} (hn:n∈ws) (v:Int):RelC f ws (s.put n v) (g.put (f n) v):=by
 refine ⟨h.next,h.code,(ic ..).trans h.len,(ic ..).trans h.len',fun m a=>?_⟩;show (g.sl.set (f n).toNat v)[(f m).toNat]?.getD (-1)=(s.sl.set n.toNat v)[m.toNat]?.getD (-1);have j:=hf.rng n hn;have l:=hf.rng m a;have o:=hf.rng' n hn;have p:=hf.rng' m a;rw [Aa,Aa];by_cases e:n=m
 ·subst e;rw [ai rfl,ai rfl,ai (by rw [h.len']; omega),ai (by rw [h.len]; omega)]
 ·have q:¬ f n=f m:=fun i=>e (hf.inj n hn m a i);rw [ah (by omega),ah (by omega)];exact h.slots m a
theorem iM (f:Int->Int) (t:T):(mvT f t).kind=t.kind:=by cases t; rfl
theorem tg (f:Int->Int) (t:T):(mvT f t).name=t.name:=by cases t; rfl
theorem oD (f:Int->Int) (t:T):(mvT f t).kids=mvL f t.kids:=by cases t; rfl
theorem FX (f:Int->Int) {t:T} (h:t.kind=1):(mvT f t).n=f t.n:=by
 cases t; rename_i k n s a;have:k=1:=h;subst this;rfl
theorem GL (f:Int->Int) {t:T} (h:¬ t.kind=1):(mvT f t).n=t.n:=by
 cases t; rename_i k n s a;have:¬ k=1:=h;rw [mvT,ah this]; rfl
theorem FQ {ws:List Int} {t:T} (h:inT ws t) (hk:t.kind=1):t.n∈ws:=by
 cases t;rw [inT] at h;exact h.1 hk
theorem yj {ws:List Int} {t:T} (h:inT ws t):inL ws t.kids:=by
 cases t;rw [inT] at h;exact h.2
mutual
def kOk:T->Prop
 | .mk k _ _ ks=>(k=1 ∨ k=2 ∨ k=3)/\iK ks
def iK:List T->Prop
 | []=>True
 | t::ts=>kOk t/\iK ts
end
theorem kOk.kind {t:T} (h:kOk t):t.kind=1 ∨ t.kind=2 ∨ t.kind=3:=by
 cases t; rw [kOk] at h; exact h.1
theorem kOk.kids {t:T} (h:kOk t):iK t.kids:=by
 cases t; rw [kOk] at h; exact h.2
mutual
theorem wW:∀ (t:T) (d:Int),cP t d=true->kOk t
 | .mk k n s ks,d,h=>by
  rw [cP] at h;split at h
  ·cases h
  ·rw [bJ] at h;rw [kOk];refine ⟨?_,tH ks _ h.2⟩;have a:=h.1;by_cases g:k=1
   ·exact .inl g
   ·by_cases i:k=2
    ·exact .inr (.inl i)
    ·by_cases j:k=3
     ·exact .inr (.inr j)
     ·exfalso;unfold dA at a;rw [ah (show ¬ (T.mk k n s ks).kind=1 from g),ah (show ¬ (T.mk k n s ks).kind=2 from i),ah (show ¬ (T.mk k n s ks).kind=3 from j)] at a;cases a
theorem tH:∀ (a:List T) (d:Int),cK a d=true->iK a
 | [],_,_=>trivial
 | t::a,d,h=>by
  rw [cK,bJ] at h;rw [iK];exact ⟨wW t d h.1,tH a d h.2⟩
end
theorem xS {t:T} (h:cD t=true):kOk t:=by
 rw [cD,bJ] at h;exact wW t _ h.1
theorem Ad (hf:nG f ws) {s i:CS} (h:RelC f ws s i) {t:T} (j:inT ws t) (hk:t.kind=1 ∨ t.kind=2):RelC f ws (dJ s t) (dJ i (mvT f t)):=by
 unfold dJ;rw [iM];by_cases a:t.kind=2
 ·rw [ai a,ai a,GL f (by omega)];exact h.emit _
 ·have g:t.kind=1:=by omega
  rw [ah a,ah a,FX f g,h.slots _ (FQ j g),h.next];split
  ·exact h.emit _
  ·exact ((h.put hf (FQ j g) _).emit _).inc
def mvQ (f:Int->Int) (q:List (T × Int)):List (T × Int):=q.map fun x=>(mvT f x.1,x.2)
def inQ (ws:List Int) (q:List (T × Int)):Prop:=∀ x∈q,inT ws x.1/\kOk x.1
theorem Hh (hf:nG f ws) {s g:CS} (h:RelC f ws s g) {t:T} (j:inT ws t) (hk:kOk t) :
  RelC f ws (co s t).1 (co g (mvT f t)).1/\(co g (mvT f t)).2=mvQ f (co s t).2/\inQ ws (co s t).2:=by
 unfold co;rw [iM];by_cases a:t.kind=3
 ·rw [ai a,ai a,h.next];refine ⟨(h.emit _).inc,rfl,fun x i=>?_⟩;rw [fl.1 i];exact ⟨j,hk⟩
 ·rw [ah a,ah a];exact ⟨Ad hf h j (by have:=hk.kind; omega),rfl,fun x i=>by cases i⟩
theorem xF (hf:nG f ws):∀ (a:List T) {s i:CS},RelC f ws s i->inL ws a->iK a->
  RelC f ws (bA s a).1 (bA i (mvL f a)).1/\(bA i (mvL f a)).2=mvQ f (bA s a).2/\inQ ws (bA s a).2
 | [],_,_,h,_,_=>⟨h,rfl,fun x g=>by cases g⟩
 | t::a,s,i,h,hi,hk=>by
  rw [inL] at hi;rw [iK] at hk;obtain ⟨j,l,m⟩:=Hh hf h hi.1 hk.1;obtain ⟨o,p,b3⟩:=xF hf a j hi.2 hk.2;rw [mvL,bA,bA];refine ⟨o,?_,fun x g=>?_⟩
  ·rw [l,p,mvQ,mvQ,mvQ,ya]
  ·rcases dh.1 g with g|g
   ·exact m x g
   ·exact b3 x g
theorem Fw (hf:nG f ws) {s l:CS} (h:RelC f ws s l) (i:Int) {t:T} (m:inT ws t) (hk:kOk t) :
  RelC f ws (bD s i t).1 (bD l i (mvT f t)).1/\(bD l i (mvT f t)).2=mvQ f (bD s i t).2/\inQ ws (bD s i t).2:=by
 unfold bD;rw [iM];by_cases j:t.kind=2
 ·rw [ai j,ai j,GL f (by omega)];exact ⟨h.emit _,rfl,fun x g=>by cases g⟩
 ·rw [ah j,ah j];by_cases a:t.kind=1
  ·rw [ai a,ai a,FX f a,h.slots _ (FQ m a)];refine ⟨?_,rfl,fun x g=>by cases g⟩;split
   ·exact h.emit _
   ·exact h.put hf (FQ m a) _
  ·rw [ah a,ah a];refine ⟨h,rfl,fun x g=>?_⟩;rw [fl.1 g];exact ⟨m,hk⟩
theorem ul (hf:nG f ws):∀ (a:List T) (i:Int) {s j:CS},RelC f ws s j->inL ws a->iK a->
  RelC f ws (bG s i a).1 (bG j i (mvL f a)).1/\(bG j i (mvL f a)).2=mvQ f (bG s i a).2/\inQ ws (bG s i a).2
 | [],_,_,_,h,_,_=>⟨h,rfl,fun x g=>by cases g⟩
 | t::a,i,s,j,h,hi,hk=>by
  rw [inL] at hi;rw [iK] at hk;obtain ⟨l,m,o⟩:=Fw hf h i hi.1 hk.1;obtain ⟨p,q,b3⟩:=ul hf a (i+1) l hi.2 hk.2;rw [mvL,bG,bG];refine ⟨p,?_,fun x g=>?_⟩
  ·rw [m,q,mvQ,mvQ,mvQ,ya]
  ·rcases dh.1 g with g|g
   ·exact o x g
   ·exact b3 x g
theorem Av (hf:nG f ws):∀ (k:Nat) (q:List (T × Int)) {s g:CS},RelC f ws s g->inQ ws q->RelC f ws (eE k s q) (eE k g (mvQ f q))
 | 0,_,_,_,h,_=>h
 | _+1,[],_,_,h,_=>h
 | k+1,x::q,s,g,h,hq=>by
  obtain ⟨i,hk⟩:=hq x (cQ ..);show RelC f ws (eE (k+1) s (x::q)) (eE (k+1) g ((mvT f x.1,x.2)::mvQ f q));rw [eE,eE];simp only [oD,gv,tg];obtain ⟨j,l,m⟩:=xF hf x.1.kids (h.emit ⟨3,x.1.kids.length,x.2,x.1.name⟩) (yj i) hk.kids;have:=Av hf k (q++(bA (s.emit ⟨3,x.1.kids.length,x.2,x.1.name⟩) x.1.kids).2) j (fun y a=>by
   rcases dh.1 a with a|a
   ·exact hq y (c7 _ a)
   ·exact m y a)
  rw [mvQ,ya] at this;rw [l];exact this
theorem yg (hf:nG f ws):∀ (a:List T) (vs:List Int) {s i:CS},RelC f ws s i->inL ws a->iK a->RelC f ws (cM s a vs) (cM i (mvL f a) vs)
 | [],_,_,_,h,_,_=>by rw [mvL,cM,cM]; exact h; all_goals simp
 | _::_,[],_,_,h,_,_=>by rw [mvL,cM,cM]; exact h; all_goals simp
 | t::a,v::vs,s,i,h,hi,hk=>by
  rw [inL] at hi;rw [iK] at hk;rw [mvL,cM,cM,iM];refine yg hf a vs ?_ hi.2 hk.2;by_cases g:t.kind=3
  ·rw [ai g,ai g]; exact h.emit _
  ·rw [ah g,ah g]; exact Ad hf h hi.1 (by have:=hk.1.kind; omega)
mutual
theorem vB (hf:nG f ws):∀ (t:T) {s a:CS},RelC f ws s a->inT ws t->kOk t->RelC f ws (aY t s).1 (aY (mvT f t) a).1/\(aY (mvT f t) a).2=(aY t s).2
 | .mk k n nm ks,s,a,h,hi,hk=>by
  rw [inT] at hi;rw [kOk] at hk;obtain ⟨g,i⟩:=yb hf ks h hi.2 hk.2;rw [mvT,aY,aY,gv,i,g.next];exact ⟨yg hf ks _ (g.emit _).inc hi.2 hk.2,rfl⟩
theorem yb (hf:nG f ws):∀ (a:List T) {s g:CS},RelC f ws s g->inL ws a->iK a->RelC f ws (bE a s).1 (bE (mvL f a) g).1/\(bE (mvL f a) g).2=(bE a s).2
 | [],_,_,h,_,_=>by rw [mvL,bE,bE]; exact ⟨h,rfl⟩
 | t::a,s,g,h,hi,hk=>by
  rw [inL] at hi;rw [iK] at hk;have j:RelC f ws (if t.kind=3 then aY t s else (s,-1)).1 (if t.kind=3 then aY (mvT f t) g else (g,-1)).1/\(if t.kind=3 then aY (mvT f t) g else (g,-1)).2=(if t.kind=3 then aY t s else (s,-1)).2:=by
   by_cases i:t.kind=3
   ·rw [ai i,ai i]; exact vB hf t h hi.1 hk.1
   ·rw [ah i,ah i]; exact ⟨h,rfl⟩
  rw [mvL,bE,bE,iM];obtain ⟨l,m⟩:=yb hf a j.1 hi.2 hk.2;exact ⟨l,by rw [j.2,m]⟩
end
theorem GY (hf:nG f ws) {s l:CS} (h:RelC f ws s l) (i:Int) {t:T} (j:inT ws t) (hk:kOk t):RelC f ws (eN s i t) (eN l i (mvT f t)):=by
 unfold eN;rw [iM];by_cases g:t.kind=2
 ·rw [ai g,ai g,GL f (by omega)];exact h.emit _
 ·rw [ah g,ah g];by_cases a:t.kind=1
  ·rw [ai a,ai a,FX f a,h.slots _ (FQ j a),h.next];split
   ·exact h.emit _
   ·exact (h.put hf (FQ j a) _).inc.emit _
  ·rw [ah a,ah a];obtain ⟨m,o⟩:=vB hf t h j hk;rw [o];exact m.emit _
theorem xi (hf:nG f ws):∀ (a:List T) (i:Int) {s g:CS},RelC f ws s g->inL ws a->iK a->RelC f ws (dT s i a) (dT g i (mvL f a))
 | [],_,_,_,h,_,_=>by rw [mvL,dT,dT]; exact h
 | t::a,i,s,g,h,hi,hk=>by
  rw [inL] at hi;rw [iK] at hk;rw [mvL,dT,dT];exact xi hf a (i+1) (GY hf h i hi.1 hk.1) hi.2 hk.2
theorem IL (f:Int->Int) (t:T):qA (mvT f t)=qA t:=by
 unfold qA; rw [iM,tg,oD,gv]
theorem GX (f:Int->Int) (t:T):dM (mvT f t)=dM t:=by
 unfold dM; rw [iM,tg,oD,gv]
theorem u0 (hf:nG f ws):∀ (a:List T) {s i:CS},RelC f ws s i->inL ws a->iK a->RelC f ws (dP s a) (dP i (mvL f a))
 | [],_,_,h,_,_=>by rw [mvL,dP,dP]; exact h
 | g::a,s,i,h,hi,hk=>by
  rw [inL] at hi;rw [iK] at hk;rw [mvL,dP,dP];refine u0 hf a ?_ hi.2 hk.2;unfold fE;rw [IL,GX,oD,gv,tg];split
  ·exact h.emit _
  ·exact (xi hf g.kids 0 h (yj hi.1) hk.1.kids).emit _
theorem Ec (f:Int->Int):∀ q:List (T × Int),cU (mvQ f q)=cU q
 | []=>rfl
 | x::q=>by
  show (bT (mvT f x.1)).toNat+cU (mvQ f q)=_;rw [yZ,Ec f q]; rfl
theorem E8 (hf:nG f ws) {a:List T} {s g:CS} (h:RelC f ws s g) (i:inL ws a) (hk:iK a):RelC f ws (gU s a) (gU g (mvL f a)):=by
 unfold gU;obtain ⟨j,l,m⟩:=ul hf a 0 h i hk;rw [l,Ec];exact Av hf _ _ j m
theorem Fi (hf:nG f ws) {c:C} (a:inT ws c.head) (g:inL ws c.body) (h:kOk c.head) (i:iK c.body):jw ⟨mvT f c.head,mvL f c.body⟩=jw c:=by
 have j:RelC f ws startC startC:=by
  refine ⟨rfl,rfl,by simp [startC],by simp [startC],fun n hn=>?_⟩;have l:=hf.rng n hn;have m:=hf.rng' n hn;unfold CS.at_ startC;simp only;rw [Ej,Ej,ai (by omega),ai (by omega)]
 unfold jw;simp only [oD];exact ((u0 hf c.body (E8 hf j (yj a) h.kids) g i).emit _).code
end
theorem Bq:∀ {a:List T},(∀ t∈a,kOk t)->iK a
 | [],_=>trivial
 | t::a,h=>by rw [iK]; exact ⟨h t (cQ ..),Bq fun x g=>h x (c7 _ g)⟩
theorem C6 {c:C} (h:a4 c=true):kOk c.head/\iK c.body:=by
 rw [a4] at h;simp only [bJ,gR] at h;refine ⟨xS h.2.2.1,Bq fun t a=>?_⟩;have:=h.2.1 t a;rw [dF,bJ] at this;exact xS this.1
theorem G6 {c:C} (h:a4 c=true):jw (wD (bu c) c)=jw c:=by
 obtain ⟨e,i,j,_⟩:=DT h;have hk:=C6 h;rw [e];refine Fi (ws:=bu c) ⟨Gw,xy h,fun a g=>?_⟩ i j hk.1 hk.2;have:=Bh h a g;omega
end
section
open Go Go.RowKit
mutual
def sbT (σ:Int->T):T->T
 | .mk k n s ks=>if k=1 then σ n else .mk k n s (sbL σ ks)
def sbL (σ:Int->T):List T->List T
 | []=>[]
 | t::ts=>sbT σ t::sbL σ ts
end
end
section
open Go Go.RowKit
abbrev Sl:=Int->Option T
def upS (v:Sl) (n:Int) (t:T):Sl:=fun m=>if m=n then some t else v m
theorem Ap (v:Sl) (n:Int) (t:T):upS v n t n=some t:=ai rfl
theorem C5 (v:Sl) {n m:Int} (t:T) (h:m≠n):upS v n t m=v m:=ah h
def Kv (n:Int):T:=.mk 2 n emptyB []
inductive Des:Sl->List Ist->Sl->List T->Prop
 | nil {v:Sl}:Des v [] v []
 | var {v v':Sl} {a b:Int} {nm:ByteArray} {t:T} {xs:List Ist} {ks:List T}:Des (upS v a t) xs v' ks->Des v (⟨4,a,b,nm⟩::xs) v' (t::ks)
 | val {v v':Sl} {a b:Int} {nm:ByteArray} {t:T} {xs:List Ist} {ks:List T}:v a=some t->Des v xs v' ks->Des v (⟨5,a,b,nm⟩::xs) v' (t::ks)
 | int {v v':Sl} {a b:Int} {nm:ByteArray} {xs:List Ist} {ks:List T}:Des v xs v' ks->Des v (⟨6,a,b,nm⟩::xs) v' (Kv a::ks)
theorem Des.len {v i:Sl} {xs:List Ist} {g:List T} (h:Des v xs i g):g.length=xs.length:=by
 induction h with
 | nil=>rfl
 | var _ a=>simp [a]
 | val _ _ a=>simp [a]
 | int _ a=>simp [a]
mutual
def okG:T->Prop
 | .mk k n s ks=>((k=1/\0<=n/\n<26) ∨ (k=2/\s=emptyB/\ks=[]) ∨ (k=3/\n=0))/\g8 ks
def g8:List T->Prop
 | []=>True
 | t::ts=>okG t/\g8 ts
end
theorem okG.kind {t:T} (h:okG t):(t.kind=1/\0<=t.n/\t.n<26) ∨ (t.kind=2/\t.name=emptyB/\t.kids=[]) ∨ (t.kind=3/\t.n=0):=by
 cases t; rw [okG] at h; exact h.1
theorem okG.kids {t:T} (h:okG t):g8 t.kids:=by cases t; rw [okG] at h; exact h.2
mutual
theorem xj:∀ (t:T) (d:Int),cP t d=true->okG t
 | .mk k n s ks,d,h=>by
  rw [cP] at h;split at h
  ·cases h
  ·rw [bJ] at h;rw [okG];refine ⟨?_,ui ks _ h.2⟩;have a:=h.1;unfold dA at a;by_cases g:(T.mk k n s ks).kind=1
   ·rw [ai g] at a;simp only [bJ,bQ] at a;have l:n<=25:=a.2.1;exact .inl ⟨g,a.1,by omega⟩
   ·rw [ah g] at a;by_cases i:(T.mk k n s ks).kind=2
    ·rw [ai i] at a;simp only [bJ,bQ] at a;exact .inr (.inl ⟨i,a.2.2.1,kP a.2.2.2⟩)
    ·rw [ah i] at a;by_cases j:(T.mk k n s ks).kind=3
     ·rw [ai j] at a;simp only [bJ,bQ] at a;exact .inr (.inr ⟨j,a.1⟩)
     ·rw [ah j] at a;cases a
theorem ui:∀ (a:List T) (d:Int),cK a d=true->g8 a
 | [],_,_=>trivial
 | t::a,d,h=>by
  rw [cK,bJ] at h;rw [g8];exact ⟨xj t d h.1,ui a d h.2⟩
end
theorem xH {t:T} (h:cD t=true):okG t:=by
 rw [cD,bJ] at h;exact xj t _ h.1
theorem BX:∀ {a:List T},(∀ t∈a,okG t)->g8 a
 | [],_=>trivial
 | t::a,h=>by rw [g8]; exact ⟨h t (cQ ..),BX fun x g=>h x (c7 _ g)⟩
theorem ij:∀ {a:List T},g8 a->∀ t∈a,okG t
 | t::a,h,x,g=>by
  rw [g8] at h;rcases fm.1 g with rfl|g
  ·exact h.1
  ·exact ij h.2 x g
theorem tx {c:C} (h:a4 c=true):okG c.head/\g8 c.body:=by
 rw [a4] at h;simp only [bJ,gR] at h;refine ⟨xH h.2.2.1,BX fun t a=>?_⟩;have:=h.2.1 t a;rw [dF,bJ] at this;exact xH this.1
structure Wf (s:CS):Prop where
 len:s.sl.length=26
 lt:∀ n,s.at_ n<s.next
 four:4<=s.next
def AgrS (θ:Int->T) (s:CS) (v:Sl):Prop:=∀ n,0<=n->n<26->0<=s.at_ n->v (s.at_ n)=some (θ n)
def Df (s:CS) (v:Sl):Prop:=∀ n,0<=n->n<26->0<=s.at_ n->∃ t,v (s.at_ n)=some t
def Frm (k:Int) (v v':Sl):Prop:=∀ m,m<k->v' m=v m
theorem Frm.refl (k:Int) (v:Sl):Frm k v v:=fun _ _=>rfl
theorem Frm.trans {k g:Int} {v i a:Sl} (h:Frm k v i) (j:Frm g i a) (hk:k<=g):Frm k v a:=fun m l=>(j m (by omega)).trans (h m l)
theorem Frm.upS {k n:Int} (v:Sl) (t:T) (h:k<=n):Frm k v (upS v n t):=fun m a=>C5 v t (by omega)
structure Xt (s s':CS):Prop where
 wf:Wf s'
 ext:∀ n,0<=n->n<26->0<=s.at_ n->s'.at_ n=s.at_ n
 next:s.next<=s'.next
theorem Xt.refl {s:CS} (h:Wf s):Xt s s:=⟨h,fun _ _ _ _=>rfl,mT _⟩
theorem Xt.trans {s m a:CS} (h:Xt s m) (g:Xt m a):Xt s a:=
 ⟨g.wf,fun n i j l=>by rw [g.ext n i j (by rw [h.ext n i j l]; exact l),h.ext n i j l],EK h.next g.next⟩
theorem Wf.emit {s:CS} (h:Wf s) (x:Ist):Wf (s.emit x):=⟨h.len,h.lt,h.four⟩
theorem Wf.inc {s:CS} (h:Wf s):Wf s.inc:=⟨h.len,fun n=>by show s.at_ n<s.next+1; have:=h.lt n; omega,by show 4<=s.next+1; have:=h.four; omega⟩
theorem Xt.emit {s:CS} (h:Wf s) (x:Ist):Xt s (s.emit x):=⟨h.emit x,fun _ _ _ _=>rfl,mT _⟩
theorem Xt.inc {s:CS} (h:Wf s):Xt s s.inc:=⟨h.inc,fun _ _ _ _=>rfl,by show s.next<=s.next+1; omega⟩
theorem gQ {s:CS} (a:s.sl.length=26) {n m:Int} (hn:0<=n/\n<26) (g:0<=m/\m<26) (x:Int):(s.put n x).at_ m=if m=n then x else s.at_ m:=by
 show (s.sl.set n.toNat x)[m.toNat]?.getD (-1)=_;rw [Aa];by_cases e:m=n
 ·subst e;rw [ai rfl,ai (by omega),ai rfl]; rfl
 ·rw [ah (by omega),ah e]; rfl
theorem Hg {s:CS} {n:Int} {x:Int} {k:Int} (h:∀ m,s.at_ m<k) (a:x<k):∀ m,(s.put n x).at_ m<k:=by
 intro m;show (s.sl.set n.toNat x)[m.toNat]?.getD (-1)<k;rw [Aa];split
 ·split
  ·exact a
  ·have:=h m;have j:=h (-1);show (none:Option Int).getD (-1)<k;rename_i g i
   have l:s.at_ n=-1:=by
    show s.sl[n.toNat]?.getD (-1)=-1;rw [List.getElem?_eq_none (by omega)]; rfl
   have:=h n;show (-1:Int)<k;omega
 ·exact h m
theorem Xt.new {s:CS} (h:Wf s) {n:Int} (hn:0<=n/\n<26) (a:¬ 0<=s.at_ n):Xt s (s.put n s.next).inc:=by
 refine ⟨⟨(ic ..).trans h.len,fun m=>?_,by show 4<=s.next+1; have:=h.four; omega⟩,fun m g i j=>?_,by show s.next<=s.next+1; omega⟩
 ·exact Hg (k:=s.next+1) (fun m=>by have:=h.lt m; omega) (by omega) m
 ·show (s.put n s.next).at_ m=s.at_ m;rw [gQ h.len hn ⟨g,i⟩,ah (fun e=>by subst e; exact a j)]
theorem AgrS.new {θ:Int->T} {s:CS} {v:Sl} (h:Wf s) (j:AgrS θ s v) {n:Int} (hn:0<=n/\n<26):AgrS θ (s.put n s.next).inc (upS v s.next (θ n)):=by
 intro m g i a;have a:0<=(s.put n s.next).at_ m:=a;show upS v s.next (θ n) ((s.put n s.next).at_ m)=_;rw [gQ h.len hn ⟨g,i⟩] at a ⊢;by_cases e:m=n
 ·subst e;rw [ai rfl,Ap]
 ·rw [ah e] at a ⊢;have:=h.lt m;rw [C5 _ _ (by omega)];exact j m g i a
theorem Df.new {s:CS} {v:Sl} (h:Wf s) (j:Df s v) {n:Int} (hn:0<=n/\n<26) (t:T):Df (s.put n s.next).inc (upS v s.next t):=by
 intro m g i a;have a:0<=(s.put n s.next).at_ m:=a;show ∃ u,upS v s.next t ((s.put n s.next).at_ m)=_;rw [gQ h.len hn ⟨g,i⟩] at a ⊢;by_cases e:m=n
 ·rw [ai e,Ap]; exact ⟨t,rfl⟩
 ·rw [ah e] at a ⊢;have:=h.lt m;rw [C5 _ _ (by omega)];exact j m g i a
theorem AgrS.back {θ:Int->T} {s j:CS} {v l:Sl} (h:Wf s) (m:Xt s j) (hf:Frm s.next v l) (o:AgrS θ j l):AgrS θ s v:=fun n a g i=>by
 rw [<- hf _ (h.lt n),<- m.ext n a g i];exact o n a g (by rw [m.ext n a g i]; exact i)
def I0 (s:CS) (t:T):Ist:=
 if t.kind=2 then ⟨6,t.n,0,emptyB⟩
 else if 0<=s.at_ t.n then ⟨5,s.at_ t.n,0,emptyB⟩
 else ⟨4,s.next,0,emptyB⟩
theorem xc (s:CS) (t:T):(dJ s t).code=s.code++[I0 s t]:=by
 unfold dJ I0;split
 ·rfl
 ·split <;> rfl
theorem y9 {s:CS} (h:Wf s) {t:T} (a:okG t) (g:t.kind≠3):Xt s (dJ s t):=by
 unfold dJ;split
 ·exact .emit h _
 ·rename_i i
  rcases a.kind with hk|hk|hk
  ·split
   ·exact .emit h _
   ·rename_i j
    have:=Xt.new h hk.2 j;exact ⟨⟨this.wf.len,this.wf.lt,this.wf.four⟩,this.ext,this.next⟩
  ·exact absurd hk.1 i
  ·exact absurd hk.1 g
def Jg (s:CS) (t:T):Ist:=if t.kind=3 then ⟨4,s.next,0,emptyB⟩ else I0 s t
def A5:CS->List T->List Ist
 | _,[]=>[]
 | s,t::ts=>Jg s t::A5 (co s t).1 ts
theorem uw:∀ (a:List T) (s:CS),(bA s a).1.code=s.code++A5 s a
 | [],s=>by rw [bA,A5,cS]
 | t::a,s=>by
  rw [bA,A5];show (bA (co s t).1 a).1.code=_;rw [uw a];have:(co s t).1.code=s.code++[Jg s t]:=by
   unfold co Jg;split
   ·rfl
   ·exact xc s t
  rw [this,d4]; rfl
def PdOk (θ:Int->T) (q:List (T × Int)) (v:Sl):Prop:=∀ p∈q,v p.2=some (sbT θ p.1)
def PdW (q:List (T × Int)) (k:Int):Prop:=∀ p∈q,okG p.1/\p.1.kind=3/\p.2<k
theorem EE {s:CS} (h:Wf s) {t:T} (i:okG t):Xt s (co s t).1/\PdW (co s t).2 (co s t).1.next:=by
 unfold co;split
 ·rename_i a
  refine ⟨(Xt.emit h _).trans (.inc (h.emit _)),fun p g=>?_⟩;rw [fl.1 g];exact ⟨i,a,by show s.next<s.next+1; omega⟩
 ·rename_i a
  exact ⟨y9 h i a,fun p g=>(by cases g)⟩
theorem tQ:∀ (a:List T) {s:CS},Wf s->g8 a->Xt s (bA s a).1/\PdW (bA s a).2 (bA s a).1.next
 | [],s,h,_=>⟨.refl h,fun p g=>(by cases g)⟩
 | t::a,s,h,ht=>by
  rw [g8] at ht;obtain ⟨i,l⟩:=EE h ht.1;obtain ⟨j,m⟩:=tQ a i.wf ht.2;rw [bA];refine ⟨i.trans j,fun p g=>?_⟩;rcases dh.1 g with g|g
  ·obtain ⟨o,q,r⟩:=l p g;have:=j.next;exact ⟨o,q,by show p.2<(bA (co s t).1 a).1.next; omega⟩
  ·exact m p g
theorem PdOk.back {θ:Int->T} {q:List (T × Int)} {v a:Sl} {k:Int} (h:PdOk θ q a) (i:PdW q k) (hf:Frm k v a):PdOk θ q v:=fun p g=>by rw [<- hf _ (i p g).2.2]; exact h p g
def Gk:Nat->CS->List (T × Int)->List Ist
 | 0,_,_=>[]
 | _+1,_,[]=>[]
 | f+1,s,x::q=>⟨3,x.1.kids.length,x.2,x.1.name⟩::(A5 (s.emit ⟨3,x.1.kids.length,x.2,x.1.name⟩) x.1.kids++Gk f (bA (s.emit ⟨3,x.1.kids.length,x.2,x.1.name⟩) x.1.kids).1 (q++(bA (s.emit ⟨3,x.1.kids.length,x.2,x.1.name⟩) x.1.kids).2))
theorem xA:∀ (f:Nat) (s:CS) (q:List (T × Int)),(eE f s q).code=s.code++Gk f s q
 | 0,s,q=>by rw [eE,Gk,cS]
 | f+1,s,[]=>by rw [eE,Gk,cS]
 | f+1,s,x::q=>by
  rw [eE,Gk,xA f,uw];show (s.code++[_])++_++_=_;rw [d4,d4]; rfl
theorem Eo:∀ (f:Nat) {s:CS} {q:List (T × Int)},Wf s->PdW q s.next->Xt s (eE f s q)
 | 0,s,q,h,_=>by rw [eE]; exact .refl h
 | f+1,s,[],h,_=>by rw [eE]; exact .refl h
 | f+1,s,x::q,h,hq=>by
  rw [eE];have m:=hq x (cQ ..);obtain ⟨g,i⟩:=tQ x.1.kids (h.emit ⟨3,x.1.kids.length,x.2,x.1.name⟩) m.1.kids;have hn:=g.next;have hn:s.next<=(bA (s.emit ⟨3,x.1.kids.length,x.2,x.1.name⟩) x.1.kids).1.next:=hn;exact ((Xt.emit h _).trans g).trans (Eo f g.wf fun p a=>by
   rcases dh.1 a with a|a
   ·obtain ⟨j,l,b3⟩:=hq p (c7 _ a);exact ⟨j,l,by omega⟩
   ·exact i p a)
theorem fx:∀ a b:List (T × Int),cU (a++b)=cU a+cU b
 | [],b=>by rw [ss,cU,ct]
 | x::a,b=>by rw [gC,cU,cU,fx a b]; omega
theorem rc:∀ (a:List T) (s:CS),cU (bA s a).2<=(bi a).toNat
 | [],s=>by rw [bA]; exact aQ _
 | t::a,s=>by
  rw [bA];show cU ((co s t).2++(bA (co s t).1 a).2)<=_;rw [fx,bi];have g:=rc a (co s t).1;have h:cU (co s t).2<=(bT t).toNat:=by
   unfold co;split
   ·show (bT t).toNat+0<=_;omega
   ·exact aQ _
  have:=de t;have:=bW a;omega
end
end Go.Proofs.YtjbcdmheajljpaaGreat
