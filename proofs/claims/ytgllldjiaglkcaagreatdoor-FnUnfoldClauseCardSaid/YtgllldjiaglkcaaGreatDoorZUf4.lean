/- Rows of clauses that are only read: grown, joined, copied. -/
import Derived.Test.YtgllldjiaglkcaaGreatDoorZUf3
namespace Go.Proofs.YtgllldjiaglkcaaGreatDoor
section
open Go Go.RowKit

structure Rows {α:Type} (k:Nat) (R:List Value->α->Prop) (css:List (List Value)) (ys:List α):Prop where
 hc:css.length=ys.length
 hk:∀ cs∈css,cs.length=k
 hR:∀ i (h:i<ys.length) (h1:i<css.length),R css[i] ys[i]
theorem Rows.nil {α:Type} (k:Nat) (R:List Value->α->Prop):Rows k R [] ([]:List α):=⟨rfl,by simp,fun i h=>by simp at h⟩
theorem Rows.snoc {α:Type} {k:Nat} {R:List Value->α->Prop} {css:List (List Value)} {ys:List α} (h:Rows k R css ys) {cs:List Value} {y:α} (hR:R cs y) (hl:cs.length=k):Rows k R (css++[cs]) (ys++[y]):=by
 refine ⟨by simp [h.hc],fun c hc=>?_,fun i f g=>?_⟩
 ·rcases bF.1 hc with hc|hc
  ·exact h.hk c hc
  ·simp at hc; subst hc; exact hl
 ·have e2:=h.hc;by_cases a:i<ys.length
  ·rw [fA (by omega),fA a];exact h.hR i a (by omega)
  ·have:i=ys.length:=by simp at f; omega
   subst this;rw [eZ (by omega),eZ (by omega)];simp only [e2,ey,lc];exact hR
theorem Rows.append {α:Type} {k:Nat} {R:List Value->α->Prop} {css a:List (List Value)} {ys f:List α} (h:Rows k R css ys) (g:Rows k R a f):Rows k R (css++a) (ys++f):=by
 have e:=h.hc;have q:=g.hc;refine ⟨by simp [e,q],fun c hc=>?_,fun i o r=>?_⟩
 ·rcases bF.1 hc with hc|hc
  ·exact h.hk c hc
  ·exact g.hk c hc
 ·by_cases m:i<ys.length
  ·rw [fA (by omega),fA m];exact h.hR i m (by omega)
  ·have l:i - css.length<f.length:=by simp at o; omega
   rw [eZ (by omega),eZ (by omega)];have:=g.hR (i - css.length) l (by omega);simpa only [e] using this
theorem RowRd.rows {α:Type} {S:ae} {v:Value} {e:TypeId} {k:Nat} {R:List Value->α->Prop} {css:List (List Value)} {ys:List α} (a:Rows k R css ys) (h:RowRd S v e k css.length css.flatten):RdSl S k R v ys:=by
 obtain ⟨hl,h⟩:=h;have f:=a.hc;rcases h with ⟨rfl,G⟩|⟨g,cap,l,rfl,r,t,m,B,D⟩
 ·have:ys=[]:=gF (by omega);subst this;exact ⟨none,0,rfl,aS _,bk _,.inl rfl⟩
 ·refine ⟨_,cap,by rw [f],by omega,m,.inr ⟨g,0,l,e,(0,0),rfl,r,fun i o=>?_⟩⟩;have:=i8 k css i a.hk (by omega);have q:i * k+k<=css.length * k:=by rw [<- iX]; exact gM k (by omega)
  rw [<- D,GU,lD,lw (by omega)] at this;rw [aX,cP,this];exact a.hR i o (by omega)
theorem N5 {css:List (List Value)} (h:∀ cs∈css,∀ u∈cs,u.oneCell'=true):∀ u∈css.flatten,u.oneCell'=true:=by
 intro u a;obtain ⟨cs,hc,a⟩:=QB.1 a;exact h cs hc u a
theorem n9 {k:Nat}:∀ {css:List (List Value)},(∀ cs∈css,cs.length=k)->css.flatten.length=css.length * k
 | [],_=>by simp
 | c::css,h=>by
  have:=n9 (css:=css) fun cs hc=>h cs (aR _ hc);rw [fh,bA,h c (aM ..),this,bq,iX,sG]
section
variable {P:Program} {w w0:World} {X:List Nat} {L:List Item} {S:ae} {K:Value->World->Prop}
attribute [local irreducible] Run CondV aq aK
theorem ND (h:Inv w0 X L S w) {T ty e:TypeId} {k by_:Nat} {z v u:Value} {cs:List Bool} {css a:List (List Value)} (i J:Nat)
  (G:oE P T=some (e,k,by_,z)) (q:0<k) (r:L[i]?=some (aA v e k css)) (t:L[J]?=some (aA u e k a)) (B:∀ cs∈a,cs.length=k) (M:∀ cs∈a,∀ u∈cs,u.oneCell'=true)
  (f:css.length+a.length<=4294967296) (D:by_<=32768) (hk:∀ l w',Inv w0 X (L.set i (aA l e k (css++a))) S w'->K l w') :
  Run P (cm .append #[T,T] ty cs [v,u]) w K:=by
 have V:w.ownsRow 0 e k u a.length a.flatten:=h.its _ (cz t);rcases V.2 with ⟨rfl,Y⟩|⟨g,cap,Z,rfl,_,hg,a0,a1,a2,ht⟩
 ·have:a=[]:=gF Y;subst this;refine JM h i G r (hk v w ?_);have:L.set i (aA v e k (css++[]))=L:=by
   obtain ⟨O,U⟩:=fa.1 r;rw [bV,<- U,Pz]
  rw [this];exact h
 ·refine dE h i a.flatten G q r (n9 B) (o:=0) ?_ (N5 M) f D fun l w' N=>hk _ _ ?_
  ·intro j u m;rw [cP];rw [<- ht,wh] at m;split at m
   ·simpa [World.cell?,hg] using m
   ·cases m
  ·have e:Item.row l e k (css.length+a.length) (css.flatten++a.flatten)=aA l e k (css++a):=by simp [aA]
   rw [<- e];exact N
end
theorem Ix (f:C->Bool):∀ p:List C,(p.filter f).length+wP (p.filter f)+((p.filter fun c=>!f c).length+wP (p.filter fun c=>!f c))=p.length+wP p
 | []=>rfl
 | c::p=>by
  have:=Ix f p;rw [rN,rN];cases f c <;> simp [wP] <;> omega
theorem JG:∀ p q:List C,wP (p++q)=wP p+wP q
 | [],q=>by simp [wP]
 | c::p,q=>by simp only [dS,wP,JG p q]; omega
end
section
open Go Go.RowKit

theorem qW {P:Program} {T e:TypeId} {k:Nat} (h:dl P T=some (e,k)):P.underlying T=some (.slice e)/\∃ i,P.info? e=some i/\i.size=k:=by
 unfold dl at h;split at h
 ·rename_i e1 f
  rw [P5] at h;obtain ⟨i,g,a⟩:=h;simp only [cE] at a;obtain ⟨rfl,rfl⟩:=a;exact ⟨f,i,g,rfl⟩
 ·cases h
section
variable {P:Program} {w:World} {K:Value->World->Prop}
attribute [local irreducible] Run
theorem l9 {n y:Nat} {code:BoundsCode} (h:n<=y):(Instr.sliceBound (.int .i64 n) y code).run P w=.ok n w:=by
 have a:(0:Int)<=(n:Int)/\(n:Int)<=(y:Int):=by omega
 simp [Instr.sliceBound,asIntOf,h]
theorem FP {T ty e:TypeId} {k h len cap:Nat} {a:Option Addr} (f:dl P T=some (e,k)) (g:h<=cap) (hk:K (.slice (if cap=0 then a else a.map (·.add (0 * k))) h cap) w) :
  Run P (sOp (.slice T (.const (.slice a len cap)) none (some (.const (.int .i64 h))) none) ty) w K:=by
 obtain ⟨l,i,m,_⟩:=qW f;refine Run.of ?_ hk;simp [sOp,execOp,ev0,evE,Instr.sliceAt,Instr.slice,Instr.sliceBounds,run_underlying l,l9 g,sizeOf,typeInfo,m]
theorem ON {T ty e:TypeId} {k l len cap:Nat} {a:Option Addr} (f:dl P T=some (e,k)) (hl:l<=len) (hk:K (.slice (if cap=l then a else a.map (·.add (l * k))) (len - l) (cap - l)) w) :
  Run P (sOp (.slice T (.const (.slice a len cap)) (some (.const (.int .i64 l))) none none) ty) w K:=by
 obtain ⟨g,i,h,m⟩:=qW f;refine Run.of ?_ hk;simp [sOp,execOp,ev0,evE,Instr.sliceAt,Instr.slice,Instr.sliceBounds,run_underlying g,l9 hl,sizeOf,typeInfo,h,m]
end
theorem RdSl.to {α:Type} {S:ae} {k:Nat} {R:List Value->α->Prop} {a:Option Addr} {cap n h:Nat} {xs:List α} (f:RdSl S k R (.slice a n cap) xs) (q:h<=xs.length) :
  RdSl S k R (.slice (if cap=0 then a else a.map (·.add (0 * k))) h cap) (xs.take h):=by
 obtain ⟨t,g,e,hl,hc,f⟩:=f;simp only [Value.slice.injEq] at e;obtain ⟨rfl,rfl,rfl⟩:=e;have e1:(if cap=0 then a else a.map (·.add (0 * k)))=a:=by
  split
  ·rfl
  ·cases a <;> simp [Addr.add]
 rw [e1];have e2:h=(xs.take h).length:=by rw [cM]; omega
 refine ⟨a,cap,by rw [<- e2],by omega,hc,?_⟩;rcases f with rfl|⟨b,o,c,E,l,rfl,m,hR⟩
 ·left; simp
 ·right;refine ⟨b,o,c,E,l,rfl,m,fun i r=>?_⟩;rw [C3];exact hR i (by omega)
theorem RdSl.from {α:Type} {S:ae} {k:Nat} {R:List Value->α->Prop} {a:Option Addr} {cap n l:Nat} {xs:List α} (f:RdSl S k R (.slice a n cap) xs) (hl:l<=xs.length) :
  RdSl S k R (.slice (if cap=l then a else a.map (·.add (l * k))) (n - l) (cap - l)) (xs.drop l):=by
 obtain ⟨D,g,e,q,hc,f⟩:=f;simp only [Value.slice.injEq] at e;obtain ⟨rfl,rfl,rfl⟩:=e;refine ⟨_,cap - l,by rw [mi],by rw [mi]; omega,by omega,?_⟩;by_cases hd:xs.drop l=[]
 ·exact .inl hd
 ·rcases f with rfl|⟨b,o,c,E,t,rfl,B,hR⟩
  ·simp at hd
  ·right;have r:l<xs.length:=by
    rcases Lc l xs.length with h|h
    ·exact h
    ·exact absurd (vK h) hd
   refine ⟨b,o+l * k,c,E,t,?_,B,fun i m=>?_⟩
   ·rw [ag (by omega)];simp [Addr.add]
   ·rw [RW];have:=hR (l+i) (by simp at m; omega)
    rwa [AO,<- J0] at this
section
variable {P:Program} {w w0:World} {X:List Nat} {L:List Item} {S:ae} {K:Value->World->Prop}
attribute [local irreducible] Run CondV aq aK
theorem IV {α:Type} {R:List Value->α->Prop} {xs:List α} {v:Value} {T ty e:TypeId} {k h:Nat} (i:dl P T=some (e,k)) (f:RdSl S k R v xs) (l:h<=xs.length)
  (hk:∀ g,RdSl S k R g (xs.take h)->K g w):Run P (sOp (.slice T (.const v) none (some (.const (.int .i64 h))) none) ty) w K:=by
 obtain ⟨a,cap,rfl,hl,hc,m⟩:=id f;exact FP i (by omega) (hk _ (f.to l))
theorem fk {α:Type} {R:List Value->α->Prop} {xs:List α} {v:Value} {T ty e:TypeId} {k l:Nat} (h:dl P T=some (e,k)) (f:RdSl S k R v xs) (hl:l<=xs.length)
  (hk:∀ g,RdSl S k R g (xs.drop l)->K g w):Run P (sOp (.slice T (.const v) (some (.const (.int .i64 l))) none none) ty) w K:=by
 obtain ⟨a,cap,rfl,i,hc,m⟩:=id f;exact ON h hl (hk _ (f.from hl))
end
theorem RdSl.exact {α:Type} {S:ae} {k:Nat} {R:List Value->α->Prop} {v:Value} {ys:List α} (h:RdSl S k R v ys) (hk:∀ cs y,R cs y->cs.length=k) :
  ∃ ds:List {cs:List Value // cs.length=k},RdSl S k (fun cs d=>cs=d.val) v ds/\Rows k R (ds.map (·.val)) ys:=by
 obtain ⟨a,cap,rfl,hl,hc,l⟩:=h;rcases l with rfl|⟨b,o,c,E,m,rfl,q,hR⟩
 ·exact ⟨[],⟨a,cap,rfl,hl,hc,.inl rfl⟩,Rows.nil _ _⟩
 ·refine ⟨List.ofFn fun i:Fin ys.length=>⟨aX c (o+i.val * k) k,hk _ _ (hR i.val i.isLt)⟩,⟨_,cap,by rw [List.length_ofFn],by rw [List.length_ofFn]; exact hl,hc,.inr ⟨b,o,c,E,m,rfl,q,fun i r=>by simp⟩⟩,⟨by simp,fun cs f=>?_,fun i g t=>?_⟩⟩
  ·obtain ⟨d,_,rfl⟩:=dp.1 f;exact d.property
  ·simp only [EP,List.getElem_ofFn];exact hR i g
section
variable {P:Program} {w w0:World} {X:List Nat} {L:List Item} {S:ae} {K:Value->World->Prop}
attribute [local irreducible] Run CondV aq aK
theorem i5 {α:Type} {R:List Value->α->Prop} (h:Inv w0 X L S w) {T ty e:TypeId} {k by_:Nat} {z v u:Value} {cs:List Bool} {css:List (List Value)} {ys:List α} (i:Nat)
  (Z:oE P T=some (e,k,by_,z)) (m:0<k) (M:L[i]?=some (aA v e k css)) (hr:RdSl S k R u ys) (B:∀ cs y,R cs y->cs.length=k) (h1:∀ cs y,R cs y->∀ c∈cs,c.oneCell'=true)
  (a0:css.length+ys.length<=4294967296) (N:by_<=32768) (hk:∀ r w' l,Rows k R l ys->Inv w0 X (L.set i (aA r e k (css++l))) S w'->K r w') :
  Run P (cm .append #[T,T] ty cs [v,u]) w K:=by
 obtain ⟨ds,hd,hR⟩:=hr.exact B;have a4:ds.length=ys.length:=by have:=hR.hc; simpa using this
 have G:∀ d∈ds,∀ c∈d.val,c.oneCell'=true:=by
  intro d q c hc;obtain ⟨j,D,rfl⟩:=mT.1 q;have:=hR.hR j (by omega) (by simpa using D);simp only [EP] at this;exact h1 _ _ this c hc
 obtain ⟨a,cap,rfl,a1,a2,hx⟩:=id hd;have e1:∀ r,Item.row r e k (css.length+ds.length) (css.flatten++(ds.map (·.val)).flatten)=aA r e k (css++ds.map (·.val)):=fun r=>by simp [aA]
 rcases hx with rfl|⟨b,o,c,E,fz,rfl,hS,Y⟩
 ·refine JM h i Z M (hk v w [] (by simpa using hR) ?_);have:L.set i (aA v e k (css++[]))=L:=by
   obtain ⟨a3,e'⟩:=fa.1 M;rw [bV,<- e',Pz]
  rw [this];exact h
 ·have J:(ds.map (·.val)).flatten.length=ds.length * k:=by
   rw [n9 (k:=k) (fun cs f=>by obtain ⟨d,_,rfl⟩:=dp.1 f; exact d.property),jO]
  refine dE h i (ds.map (·.val)).flatten Z m M J ?_ ?_ (by omega) N fun r w' hI=>hk _ _ _ hR ?_
  ·intro j u D;have U:j<ds.length * k:=by
    rw [<- J];exact (fa.1 D).1
   have hq:j / k<ds.length:=(Nat.div_lt_iff_lt_mul m).2 U;have t:=Y (j / k) hq;have g:=i8 k (ds.map (·.val)) (j / k) (fun cs f=>by obtain ⟨d,_,rfl⟩:=dp.1 f; exact d.property) (by simpa using hq);have V:=Nat.div_add_mod j k;rw [Nat.mul_comm] at V;rw [h.cellS hS];have e2:(ds.map (·.val)).flatten[j]?=(ds[j / k].val)[j % k]?:=by
    rw [EP] at g;rw [<- g,wh,ai (wY _ m),z6]
    congr 1
    omega
   rw [e2] at D;have:=aF t (j % k) u D;rw [<- this]
   congr 1
   omega
  ·intro u O;obtain ⟨cs,f,O⟩:=QB.1 O;obtain ⟨d,q,rfl⟩:=dp.1 f;exact G d q u O
  ·rw [<- e1];exact hI
end
end
section
open Go Go.RowKit
section
variable {P:Program} {w w0:World} {X:List Nat} {L:List Item} {S:ae} {K:Value->World->Prop}
attribute [local irreducible] Run CondV aq aK
end
end
section
open Go Go.RowKit
attribute [local irreducible] Run CondV aq aK
end
section
open Go Go.RowKit
attribute [local irreducible] Run CondV aq aK
end
section
open Go Go.RowKit
section
attribute [local irreducible] Run CondV aq aK
theorem T8 {vs:List Int} {n:Int} (hn:inI n) (hl:vs.length<=1000000000):inI (kU vs n n 0):=by
 rcases IL vs n n 0 with h|h
 ·rw [h]; exact hn
 ·simp only [inI] at hn ⊢; omega
theorem Ey (vs:List Int) (a8:vs.length<=1000000000):∀ (t:T) (S:ae) (cs:List Value) (v:Value),RdT S cs t->RdSl S 1 jD v vs->wT t<=1048576->Tri Tryz.prog LC [.agg cs.toArray,v] [] S (CP S (dq vs t)):=by
 refine T.ind fun k n s ks ih S cs v h hv hw=>?_;intro w a;obtain ⟨kv,rfl,h1,h2,hs,a2⟩:=RdT.iff.1 h;simp only [T.name,T.kids,T.kind,T.n] at h1 h2 hs a2 ⊢;simp only [wT] at hw;obtain ⟨N,hN⟩:∃ N,N=if k=1 then kU vs n n 0 else n:=⟨_,rfl⟩
 have b0:inI N:=by
  rw [hN];split
  ·exact T8 h2 a8
  ·exact h2
 refine vy.2 ?_;dsimp only[vy,bm];refine bJ a fun b1 w' a=>?_;refine aQ a bj fun b2 w' a=>?_;refine af a 0 rfl aW aG rfl ?_;refine af a 0 rfl bi aG rfl ?_;refine af a 0 rfl bl be rfl ?_;refine jd ?_;refine aQ a bj fun b3 w' a=>?_;refine au a 2 rfl ad rfl rfl (by simp [Value.oneCell']) fun w' a=>?_;refine ⟨fun i w'=>∃ (j:Nat) (l:Int),j<=vs.length/\i=.int .i64 j/\(if k=1 then kU (vs.drop j) n l j else l)=N/\
   Inv w [] [.blk b1 (.cells #[.int .i64 k,.int .i64 n,.string s,kv] ab),.blk b2 (.cells #[.int .i64 0,.int .i64 0,.string ⟨#[]⟩,.slice none 0 0] ab),.blk b3 (.cells #[.int .i64 k,.int .i64 l,.string s,.slice none 0 0] ab)] S w',
  fun i _=>vs.length - (intOf i).toNat,⟨0,n,bk _,rfl,hN.symm,a⟩,?_⟩
 intro t6 _ _ _ _ _ _ _ _ _ _ _ _ _ _ _ _ _ _ _ _ w';rintro ⟨j,l,hj,rfl,B,a⟩;refine ⟨fun t w'=>t=.bool (decide (j<vs.length) && decide (k=1))/\Inv w [] [.blk b1 (.cells #[.int .i64 k,.int .i64 n,.string s,kv] ab),.blk b2 (.cells #[.int .i64 0,.int .i64 0,.string ⟨#[]⟩,.slice none 0 0] ab),.blk b3 (.cells #[.int .i64 k,.int .i64 l,.string s,.slice none 0 0] ab)] S w',?_,?_⟩
 ·refine aJ hv cA ?_;refine bS ?_;by_cases O:j<vs.length
  ·rw [aN (show (j:Int)<(vs.length:Int) by omega)];refine rpG ?_;refine af a 0 rfl aW aG rfl ?_;refine bw ?_;refine rpG ?_;exact ⟨by rw [aN O]; rfl,a⟩
  ·rw [ba (show ¬ (j:Int)<(vs.length:Int) by omega)];refine rpG ?_;exact ⟨by rw [ba O]; rfl,a⟩
 intro t _ _ _ _ _ _ _ _ w';rintro ⟨rfl,a⟩;refine aD (fun hb=>?_) (fun hb=>?_)
 ·simp only [bM,bD] at hb;obtain ⟨O,hk⟩:=hb;rw [ai hk,dY O,kU] at B;refine ⟨fun w'=>Inv w [] [.blk b1 (.cells #[.int .i64 k,.int .i64 n,.string s,kv] ab),.blk b2 (.cells #[.int .i64 0,.int .i64 0,.string ⟨#[]⟩,.slice none 0 0] ab),.blk b3 (.cells #[.int .i64 k,.int .i64 (if vs[j]=n then (j:Int) else l),.string s,.slice none 0 0] ab)] S w',?_,?_⟩
  ·obtain ⟨b,o,cap,c,E,fz,rfl,hS,hR⟩:=hv.at_ O;refine ⟨fun D CS sA ir ji jv pn kV w_=>Fx D 0 [kV=.slice (some ⟨b,o,none⟩) vs.length cap,pn=.int .i64 j,jv=.pointer (some ⟨b,o+j * 1,none⟩),ji=.int .i64 vs[j],ir=.pointer (some ⟨b1,1,none⟩),sA=.int .i64 n,CS=.bool (decide (vs[j]=n))]/\Inv w [] [.blk b1 (.cells #[.int .i64 k,.int .i64 n,.string s,kv] ab),.blk b2 (.cells #[.int .i64 0,.int .i64 0,.string ⟨#[]⟩,.slice none 0 0] ab),.blk b3 (.cells #[.int .i64 k,.int .i64 l,.string s,.slice none 0 0] ab)] S w_,⟨Fx.nil _ _,a.draw⟩,⟨?_,?_,?_,?_,?_,?_,?_,trivial⟩,?_⟩;all_goals (intro D bH; intros; rename_i CS sA ir ji jv pn kV w_ a1; have g:=a1.1; obtain ⟨⟨cI,cJ,cH,cD,cL,cN,cq,_⟩,a⟩:=a1)
   ·exact ⟨g.set 0 rfl,a⟩
   ·exact ⟨g.set 1 rfl,a⟩
   ·obtain rfl:=cI ‹_›;obtain rfl:=cJ ‹_›;refine az cA O ?_;exact ⟨g.set 2 rfl,a⟩
   ·obtain rfl:=cH ‹_›;refine cQ aG (by rw [a.cellS hS]; exact aF hR 0 _ rfl) ?_;exact ⟨g.set 3 rfl,a⟩
   ·refine aw bi ?_;exact ⟨g.set 4 rfl,a⟩
   ·obtain rfl:=cL ‹_›;refine aT a 0 aG rfl rfl ?_;exact ⟨g.set 5 rfl,a⟩
   ·obtain rfl:=cD ‹_›;obtain rfl:=cN ‹_›;refine bw ?_;exact ⟨g.set 6 rfl,a⟩
   obtain ⟨rfl,rfl,rfl,rfl,rfl,rfl,rfl,_⟩:=g.all;clear g cI cJ cH cD cL cN cq;refine aL (fun he=>?_) (fun he=>?_)
   ·rw [ai he];exact dj a 2 rfl bi aG rfl rfl rfl fun w' a=>a
   ·rw [ag he];exact a
  intro _ _ _ _ _ _ _ _ _ w' a;refine bC (by omega) ?_;exact ⟨⟨j+1,_,O,rfl,by rw [ai hk]; exact B,a⟩,by simp [intOf]; omega⟩
 have a4:l=N:=by
  by_cases hk:k=1
  ·rw [ai hk] at B;have:j=vs.length:=by
    have:decide (j<vs.length)=false:=by
     rw [aN hk,Bool.and_true] at hb;exact hb
    have:=of_decide_eq_false this;omega
   rw [this,eC] at B;exact B
  ·rw [ag hk] at B;exact B
 clear B hb;subst a4;have a:=a.rowNil ab 4;refine ⟨fun i w'=>∃ (j:Nat) (r:Value) (Ls:List bh) (css:List (List Value)),j<=ks.length/\i=.int .i64 j/\Grown 4 TrT Ls css (er vs (ks.take j))/\
   Inv w [] (.blk b1 (.cells #[.int .i64 k,.int .i64 n,.string s,kv] ab)::.blk b2 (.cells #[.int .i64 0,.int .i64 0,.string ⟨#[]⟩,.slice none 0 0] ab)::.blk b3 (.cells #[.int .i64 k,.int .i64 l,.string s,r] ab)::aA r ab 4 css::aV Ls.flatten) S w',
  fun i _=>ks.length - (intOf i).toNat,⟨0,_,[],[],bk _,rfl,Grown.nil _ _,a⟩,?_⟩
 intro t7 _ _ _ _ _ _ _ _ _ _ _ _ _ _ _ _ _ _ _ w';rintro ⟨j,r,Ls,css,hj,rfl,hg,a⟩;refine af a 0 rfl ar al rfl ?_;refine aJ a2 ah ?_;refine bS ?_;refine aL (fun O=>?_) (fun O=>?_)
 ·have a0:j<ks.length:=by omega
  have b6:(ks.take j).length=j:=by simp; omega
  have b4:=hg.hc;rw [mc] at b4;have hm:=bG a0;have b7:=iJ hm;obtain ⟨b,o,cap,c,E,fz,rfl,hS,hR⟩:=a2.at_ a0;refine ⟨fun D Gr r8 Cu Cw zl yZ sx F0 Aa Ea Ah FB w_=>Fx D 0 [FB=.pointer (some ⟨b3,3,none⟩),Ah=r,Ea=.pointer (some ⟨b1,3,none⟩),Aa=.slice (some ⟨b,o,none⟩) ks.length cap,F0=.int .i64 j,sx=.pointer (some ⟨b,o+j * 4,none⟩),yZ=.agg (aX c (o+j * 4) 4).toArray,zl=v,True,True,True,Gr=.pointer (some ⟨b3,3,none⟩),True]/\∃ M f G,(D 8=true->Cw=.agg f.toArray/\TrT M f (dq vs ks[j]))/\(D 9=true->Cu=.slice (some ⟨G,0,none⟩) 1 1)/\(D 9=true->D 8=true)/\(D 10=true->D 9=true)/\(D 12=true->D 10=true)/\(D 12=true->D 1=true)/\Inv w [] (aP (.blk b1 (.cells #[.int .i64 k,.int .i64 n,.string s,.slice (some ⟨b,o,none⟩) ks.length cap] ab)) (.blk b2 (.cells #[.int .i64 0,.int .i64 0,.string ⟨#[]⟩,.slice none 0 0] ab)) (.blk b3 (.cells #[.int .i64 k,.int .i64 l,.string s,r] ab)) (.blk b3 (.cells #[.int .i64 k,.int .i64 l,.string s,r8] ab)) (aA r ab 4 css) (aA r8 ab 4 (css++[f])) (aV Ls.flatten) M (.blk G (.cells f.toArray ab)) (D 8) (D 9) (D 10) (D 12)) S w_,⟨Fx.nil _ _,⟨[],[],0,aI,aI,aI,aI,aI,aI,by simpa [aP,aV] using a.draw⟩⟩,⟨?_,?_,?_,?_,?_,?_,?_,?_,?_,?_,?_,?_,?_,trivial⟩,?_⟩;all_goals (intro D bH; intros; rename_i Gr r8 Cu Cw zl yZ sx F0 Aa Ea Ah FB w_ a1; have g:=a1.1; obtain ⟨⟨cI,cJ,cH,cD,cL,cN,cq,dg,dG,dL,cT,dn,dN,_⟩,⟨M,f,G,U,e8,Y,V,q,Z,a⟩⟩:=a1)
  ·refine aw ar ?_;exact ⟨g.set 0 rfl,⟨M,f,G,U,e8,Y,V,q,Z,a⟩⟩
  ·obtain rfl:=cI ‹_›;have J:D 12=false:=bx.2 fun h=>by rw [Z h] at bH; cases bH
   refine aT (b:=b3) a 2 (c:=(#[.int .i64 k,.int .i64 l,.string s,r])) al (by rw [J]; rfl) rfl ?_;have Z:=fun (_:ao D 1 12=true)=>(rfl:ao D 1 1=true)
   exact ⟨g.set 1 rfl,⟨M,f,G,U,e8,Y,V,q,Z,a⟩⟩
  ·refine aw ar ?_;exact ⟨g.set 2 rfl,⟨M,f,G,U,e8,Y,V,q,Z,a⟩⟩
  ·obtain rfl:=cH ‹_›;refine aT a 0 al rfl rfl ?_;exact ⟨g.set 3 rfl,⟨M,f,G,U,e8,Y,V,q,Z,a⟩⟩
  ·exact ⟨g.set 4 rfl,⟨M,f,G,U,e8,Y,V,q,Z,a⟩⟩
  ·obtain rfl:=cD ‹_›;obtain rfl:=cL ‹_›;refine az ah a0 ?_;exact ⟨g.set 5 rfl,⟨M,f,G,U,e8,Y,V,q,Z,a⟩⟩
  ·obtain rfl:=cN ‹_›;refine ci ad hR.length (fun j v hj=>by rw [a.cellS hS]; exact aF rfl j v hj) ?_;exact ⟨g.set 6 rfl,⟨M,f,G,U,e8,Y,V,q,Z,a⟩⟩
  ·exact ⟨g.set 7 rfl,⟨M,f,G,U,e8,Y,V,q,Z,a⟩⟩
  ·obtain rfl:=cq ‹_›;obtain rfl:=dg ‹_›;have f8:D 9=false:=bx.2 fun h=>by rw [Y h] at bH; cases bH
   have f9:D 10=false:=bx.2 fun h=>by rw [V h] at f8; cases f8
   have J:D 12=false:=bx.2 fun h=>by rw [q h] at f9; cases f9
   rw [bH,f8,f9,J] at a;refine Run.call0 wn ww a (ih _ (bG a0) S _ _ hR hv (by omega)) fun v' I' S w_=>?_;rintro ⟨rfl,f,M,rfl,rfl,hT⟩ _ a;have U:ao D 8 8=true->Value.agg f.toArray=Value.agg f.toArray/\TrT M f (dq vs ks[j]):=fun _=>⟨rfl,hT⟩
   have Y:=fun (_:ao D 8 9=true)=>(rfl:ao D 8 8=true)
   have a:Inv w [] (aP (.blk b1 (.cells #[.int .i64 k,.int .i64 n,.string s,.slice (some ⟨b,o,none⟩) ks.length cap] ab)) (.blk b2 (.cells #[.int .i64 0,.int .i64 0,.string ⟨#[]⟩,.slice none 0 0] ab)) (.blk b3 (.cells #[.int .i64 k,.int .i64 l,.string s,r] ab)) (.blk b3 (.cells #[.int .i64 k,.int .i64 l,.string s,r8] ab)) (aA r ab 4 css) (aA r8 ab 4 (css++[f])) (aV Ls.flatten) M (.blk G (.cells f.toArray ab)) true (D 9) (D 10) (D 12)) S w_:=by
    rw [f8,f9,J];simpa [aP] using a
   exact ⟨g.set 8 (by first|assumption|trivial),⟨M,f,G,U,e8,Y,V,q,Z,a⟩⟩
  ·have DH:=dG ‹_›;have f9:D 10=false:=bx.2 fun h=>by rw [V h] at bH; cases bH
   have J:D 12=false:=bx.2 fun h=>by rw [q h] at f9; cases f9
   obtain ⟨q7,hT⟩:=U ‹D 8=true›;subst q7;rw [‹D 8=true›,bH,f9,J] at a;refine dB a bn (by simp [Value.cells,hT.length]) (by omega) (by omega) fun G w_ a=>?_;have U:ao D 9 8=true->Value.agg f.toArray=Value.agg f.toArray/\TrT M f (dq vs ks[j]):=fun _=>⟨rfl,hT⟩
   have e8:=fun (_:ao D 9 9=true)=>(rfl:Value.slice (some ⟨G,0,none⟩) 1 1=_)
   have Y:=fun (_:ao D 9 9=true)=>‹D 8=true›;have V:=fun (_:ao D 9 10=true)=>(rfl:ao D 9 9=true)
   have a:Inv w [] (aP (.blk b1 (.cells #[.int .i64 k,.int .i64 n,.string s,.slice (some ⟨b,o,none⟩) ks.length cap] ab)) (.blk b2 (.cells #[.int .i64 0,.int .i64 0,.string ⟨#[]⟩,.slice none 0 0] ab)) (.blk b3 (.cells #[.int .i64 k,.int .i64 l,.string s,r] ab)) (.blk b3 (.cells #[.int .i64 k,.int .i64 l,.string s,r8] ab)) (aA r ab 4 css) (aA r8 ab 4 (css++[f])) (aV Ls.flatten) M (.blk G (.cells f.toArray ab)) (D 8) true (D 10) (D 12)) S w_:=by
    rw [‹D 8=true›,f9,J];simpa [aP,Value.cells] using a
   exact ⟨g.set 9 (by first|assumption|trivial),⟨M,f,G,U,e8,Y,V,q,Z,a⟩⟩
  ·obtain rfl:=cJ ‹_›;have Eb:=dL ‹_›;have J:D 12=false:=bx.2 fun h=>by rw [q h] at bH; cases bH
   have q8:=e8 ‹D 9=true›;subst q8;obtain ⟨_,hT⟩:=U ‹D 8=true›;rw [‹D 8=true›,‹D 9=true›,bH,J] at a;have a5:((aP (.blk b1 (.cells #[.int .i64 k,.int .i64 n,.string s,.slice (some ⟨b,o,none⟩) ks.length cap] ab)) (.blk b2 (.cells #[.int .i64 0,.int .i64 0,.string ⟨#[]⟩,.slice none 0 0] ab)) (.blk b3 (.cells #[.int .i64 k,.int .i64 l,.string s,Ah] ab)) (.blk b3 (.cells #[.int .i64 k,.int .i64 l,.string s,r8] ab)) (aA Ah ab 4 css) (aA r8 ab 4 (css++[f])) (aV Ls.flatten) M (.blk G (.cells f.toArray ab)) true true false false))[4+(aV Ls.flatten).length+(aV M).length]?=some (.blk G (.cells f.toArray ab)):=by
    have e4:4+(aV Ls.flatten).length+(aV M).length=((aV Ls.flatten).length+(aV M).length)+1+1+1+1:=by omega
    rw [e4];simp only [aP,kO];rw [gG (by omega),mO,gG (aS _),ey]; rfl
   refine dE a 3 f bn (by omega) rfl (by rw [hT.length]) (m:=1) (o:=0) ?_ hT.one (by omega) (by omega) fun v' w_ a=>?_
   ·intro i u hi;rw [a.cellL a5,cP];simpa using hi
   rw [eE] at a;have V:=fun (_:ao D 10 10=true)=>‹D 9=true›;have q:=fun (_:ao D 10 12=true)=>(rfl:ao D 10 10=true)
   have a:Inv w [] (aP (.blk b1 (.cells #[.int .i64 k,.int .i64 n,.string s,.slice (some ⟨b,o,none⟩) ks.length cap] ab)) (.blk b2 (.cells #[.int .i64 0,.int .i64 0,.string ⟨#[]⟩,.slice none 0 0] ab)) (.blk b3 (.cells #[.int .i64 k,.int .i64 l,.string s,Ah] ab)) (.blk b3 (.cells #[.int .i64 k,.int .i64 l,.string s,v'] ab)) (aA Ah ab 4 css) (aA v' ab 4 (css++[f])) (aV Ls.flatten) M (.blk G (.cells f.toArray ab)) (D 8) (D 9) true (D 12)) S w_:=by
    rw [‹D 8=true›,‹D 9=true›,J];exact a
   exact ⟨g.set 10 (by first|assumption|trivial),⟨M,f,G,U,e8,Y,V,q,Z,a⟩⟩
  ·refine aw ar ?_;exact ⟨g.set 11 rfl,⟨M,f,G,U,e8,Y,V,q,Z,a⟩⟩
  ·obtain rfl:=dn ‹_›;have AB:=cT ‹_›;rw [‹D 8=true›,‹D 9=true›,‹D 10=true›,bH] at a;obtain ⟨va,vn,vc,a3⟩:=Inv.rowSlice a 3 rfl;refine dy a 2 (n:=1) (by rw [a3]; rfl) (by decide +kernel) rfl (by simp) (by rw [a3]; simp [Value.cells,Value.oneCell']) fun w_ a=>?_;have a6:Value.cells r8=#[r8]:=by rw [a3]; rfl
   rw [a6] at a;have Z:=fun (_:ao D 12 12=true)=>‹D 1=true›;have q:=fun (_:ao D 12 12=true)=>‹D 10=true›;have a:Inv w [] (aP (.blk b1 (.cells #[.int .i64 k,.int .i64 n,.string s,.slice (some ⟨b,o,none⟩) ks.length cap] ab)) (.blk b2 (.cells #[.int .i64 0,.int .i64 0,.string ⟨#[]⟩,.slice none 0 0] ab)) (.blk b3 (.cells #[.int .i64 k,.int .i64 l,.string s,r] ab)) (.blk b3 (.cells #[.int .i64 k,.int .i64 l,.string s,r8] ab)) (aA r ab 4 css) (aA r8 ab 4 (css++[f])) (aV Ls.flatten) M (.blk G (.cells f.toArray ab)) (D 8) (D 9) (D 10) true) S w_:=by
    rw [‹D 8=true›,‹D 9=true›,‹D 10=true›];exact a
   exact ⟨g.set 12 trivial,⟨M,f,G,U,e8,Y,V,q,Z,a⟩⟩
  obtain ⟨rfl,rfl,rfl,rfl,rfl,rfl,rfl,rfl,DH,Eb,AB,rfl,_,_⟩:=g.all;have FO:D 8=true:=by assumption
  have OK:D 9=true:=by assumption
  have Dy:D 10=true:=by assumption
  have UD:D 12=true:=by assumption
  clear g cI cJ cH cD cL cN cq dg dG dL cT dn dN;obtain ⟨_,hT⟩:=U FO;rw [FO,OK,Dy,UD] at a;refine bC (by omega) ?_;refine ⟨⟨j+1,r8,Ls++[M],css++[f],a0,rfl,?_,?_⟩,by simp [intOf]; omega⟩
  ·rw [G3 vs ks j a0];exact hg.snoc hT hT.length
  ·simp only [mG,fh,k0,bV,cK];refine a.sub ?_;simp only [aP];rw [<- dx];exact (((dt _ _).cons_cons _).cons_cons _).cons_cons _ |>.cons_cons _
 ·have:j=ks.length:=by omega
  subst this;rw [d4] at hg;obtain ⟨va,vn,vc,a9⟩:=a.rowSlice 3 rfl;have b5:r.oneCell'=true:=by rw [a9]; rfl
  refine aC a 2 ad rfl rfl ?_;refine au a 1 rfl ad rfl rfl ?_ fun w' a=>?_
  ·intro u hu;have a7:u∈([.int .i64 k,.int .i64 l,.string s,r]:List Value):=hu;simp at a7;rcases a7 with rfl|rfl|rfl|rfl <;> first|rfl|exact b5
  refine bB a 1 ad rfl rfl ?_;have a:Inv w [] ([]++(aA r ab 4 css::aV Ls.flatten)) S w':=a.sub (dH [_,_,_] _);obtain ⟨L,hT,a⟩:=Inv.rowTree a hg;exact ⟨_,_,_,rfl,a,Ext.refl _ _ _,rfl,_,L,rfl,rfl,TrT.iff.2 ⟨r,by rw [dq,<- hN]; rfl,by rw [dq]; exact h1,by rw [dq,<- hN]; exact b0,by rw [dq]; exact hs,by rw [dq]; exact hT⟩⟩
end
end
section
open Go Go.RowKit
theorem Inv.pubExt {w0 w:World} {X:List Nat} {A:List Item} {S:ae} {L:bh} (h:Inv w0 X (A++aV L) S w) :
  ∃ S',Inv w0 X A S' w/\Ext w0.heap.size X S S'/\Ins S' L:=by
 obtain ⟨S',g,i,l,m⟩:=h.publishAll L;refine ⟨S',g,⟨i,fun b o f=>?_⟩,l⟩;rcases m b o f with a|a
 ·exact .inl a
 ·right;exact h.new b (by rw [bZ]; exact fb _ a)
theorem Inv.pub1 {w0 w:World} {X:List Nat} {A:List Item} {S:ae} {b:Nat} {o:Obj} (h:Inv w0 X (A++[.blk b o]) S w) :
  ∃ S',Inv w0 X A S' w/\Ext w0.heap.size X S S'/\S' b=some o:=by
 obtain ⟨S',a,f,g⟩:=Inv.pubExt (A:=A) (L:=[(b,o)]) h;exact ⟨S',a,f,g _ (bK.2 rfl)⟩
theorem Rows.monoR {α:Type} {k:Nat} {R R':List Value->α->Prop} {css:List (List Value)} {ys:List α} (h:Rows k R css ys) (hR:∀ cs y,R cs y->R' cs y):Rows k R' css ys:=⟨h.hc,h.hk,fun i a f=>hR _ _ (h.hR i a f)⟩
theorem Rows.one {α:Type} {k:Nat} {R:List Value->α->Prop} {cs:List Value} {y:α} (hR:R cs y) (hl:cs.length=k):Rows k R [cs] [y]:=by
 have:=(Rows.nil k R).snoc hR hl;exact this
section
variable {P:Program} {w w0:World} {X:List Nat} {L:List Item} {S:ae} {K:Value->World->Prop}
theorem Run.call0E {f:FuncId} {fn:Func} {args:List Value} {Post:Value->List Item->ae->Prop}
  (hf:P.funcs[f]?=some fn) (hn:(fn.name == "runtime.NumGoroutine" || fn.body.isNone)=false) (h:Inv w0 X L S w) (hc:Tri P f args [] S Post)
  (hk:∀ v I' S' w',Post v I' S'->Ext w0.heap.size X S S'->Inv w0 X (L++I') S' w'->K v w'):Run P (ff (.func (.func f) #[] #[]) args) w K:=by
 refine Run.callP hf hn ((hc w h.nil.begin).mono ?_);rintro e w' ⟨v,I',S',rfl,i,g,l⟩;refine hk v I' S' w' l ⟨g.1,fun b o m=>?_⟩ (Inv.step (A:=L) (B:=[]) (by simpa using h) i g.2);rcases g.2 b o m with a|a|a
 ·exact .inl a
 ·simp [bP] at a
 ·exact .inr (.inr (gz h.size a))
end
theorem Ext.trans {n:Nat} {Y:List Nat} {S S' S'':ae} (h:Ext n Y S S') (f:Ext n Y S' S''):Ext n Y S S'':=by
 refine ⟨h.1.trans f.1,fun b o g=>?_⟩;rcases f.2 b o g with a|a
 ·exact h.2 b o a
 ·exact .inr a
section
variable {P:Program} {w w0:World} {X:List Nat} {A I:List Item} {S:ae} {K:Value->World->Prop}
theorem Pw {f:FuncId} {args:List Value} {Post:Value->List Item->ae->Prop} (h:Inv w0 X (A++I) S w) (hc:Tri P f args I S Post) :
  Calls P f args.toArray w fun e w'=>∃ v I' S',e=.returned v/\Inv w0 X (A++I') S' w'/\Ext w0.heap.size X S S'/\Post v I' S':=by
 refine (hc w (h.sub (dH A I)).begin).mono ?_;rintro e w' ⟨v,I',S',rfl,i,g,l⟩;refine ⟨v,I',S',rfl,Inv.step h i g.2,⟨g.1,fun b o m=>?_⟩,l⟩;rcases g.2 b o m with a|a|a
 ·exact .inl a
 ·exact .inr (h.new b (by rw [bZ]; exact fb _ a))
 ·exact .inr (.inr (gz h.size a))
theorem Run.callE {f:FuncId} {fn:Func} {args:List Value} {Post:Value->List Item->ae->Prop}
  (hf:P.funcs[f]?=some fn) (hn:(fn.name == "runtime.NumGoroutine" || fn.body.isNone)=false) (h:Inv w0 X (A++I) S w) (hc:Tri P f args I S Post)
  (hk:∀ v I' S' w',Post v I' S'->Ext w0.heap.size X S S'->Inv w0 X (A++I') S' w'->K v w'):Run P (ff (.func (.func f) #[] #[]) args) w K:=by
 refine Run.callP hf hn ((Pw h hc).mono ?_);rintro e w' ⟨v,I',S',rfl,a,g,i⟩;exact hk v I' S' w' i g a
theorem Run.callVE {f:FuncId} {fn:Func} {cap args:List Value} {Post:Value->List Item->ae->Prop}
  (hf:P.funcs[f]?=some fn) (hn:(fn.name == "runtime.NumGoroutine" || fn.body.isNone)=false) (h:Inv w0 X (A++I) S w) (hc:Tri P f (args++cap) I S Post)
  (hk:∀ v I' S' w',Post v I' S'->Ext w0.heap.size X S S'->Inv w0 X (A++I') S' w'->K v w'):Run P (ff (fv f cap) args) w K:=by
 unfold Run;rw [Jz hf hn];refine (Pw h hc).mono ?_;rintro e w' ⟨v,I',S',rfl,a,g,i⟩;exact hk v I' S' w' i g a
end
theorem Inv.lendExt {w0 w:World} {X:List Nat} {A:List Item} {S:ae} {v:Value} {e:TypeId} {k:Nat} {css:List (List Value)} (h:Inv w0 X (A++[aA v e k css]) S w) :
  ∃ S',Ext w0.heap.size X S S'/\RowRd S' v e k css.length css.flatten/\Inv w0 X A S' w:=by
 obtain ⟨hl,m⟩:=h.openRow;rcases m with ⟨rfl,t⟩|⟨g,cap,a,rfl,f,i,l,B,D⟩
 ·exact ⟨S,Ext.refl _ _ _,⟨hl,.inl ⟨rfl,t⟩⟩,h.sub (dt _ _)⟩
 ·obtain ⟨S',o,q,r⟩:=Inv.pub1 (A:=A) D;exact ⟨S',q,⟨hl,.inr ⟨g,cap,a,rfl,r,f,i,l,B⟩⟩,o⟩
end
section
open Go Go.RowKit
section
variable {w:World} {K:Value->World->Prop}
attribute [local irreducible] Run
theorem jx (hk:K (.agg #[.int .i64 0,.int .i64 0,.string ⟨#[]⟩,.slice none 0 0,.slice none 0 0]) w):Run Tryz.prog (cR ac []) w K:=by
 refine Run.of (v:=.agg #[.int .i64 0,.int .i64 0,.string ⟨#[]⟩,.slice none 0 0,.slice none 0 0]) (w':=w) ?_ hk;unfold cR;rw [Sem.run_bind,run_build w ac _ #[.int .i64 0,.int .i64 0,.string ⟨#[]⟩,.slice none 0 0,.slice none 0 0] (by kernel_rfl),Result.andThen_ok];rfl
end
theorem Np (ts:List T) (j:Nat) (h:j<ts.length) (l:List Int):c7 (ts.drop j) l=c7 (ts.drop (j+1)) (fp ts[j] l):=by
 rw [dY h,c7]
section
attribute [local irreducible] Run CondV aq aK
theorem A2 {ts:List T} {S:ae} {v:Value} (h:RdSl S 4 (RdT S) v ts) (hw:ts.length+wL ts<=1048577):Tri Tryz.prog GG [v] [] S (N6 4 TrT S (er (c7 ts []) ts)):=by
 intro w a;have G:=h.le;simp only [maxLen] at G;have J:=AM ts;refine rz.2 ?_;dsimp only[rz,aO];refine ei a iV fun v0 w' a=>?_;refine ⟨fun i t w'=>∃ (j:Nat) (l:List Int),j<=ts.length/\i=.int .i64 j/\c7 (ts.drop j) l=c7 ts []/\l.length+cY (ts.drop j)<=3000000/\Inv w [] [dk t l] S w',
  fun i _ _=>ts.length - (intOf i).toNat,⟨0,[],bk _,rfl,rfl,by simp only [ym,bW]; omega,a⟩,?_⟩
 intro t4 _ _ Z _ _ _ _ _ _ _ _ _ _ w';rintro ⟨j,l,hj,rfl,g,hl,a⟩;refine aJ h ah ?_;refine bS ?_;refine aL (fun O=>?_) (fun O=>?_)
 ·have o:j<ts.length:=by omega
  rw [mN ts j o] at hl;rw [Np ts j o] at g;have a0:=ef (ts.drop (j+1));have a1:=Aw ts[j] l;refine co a h ah ad o (fun _ _=>RdT.length) fun m D=>?_;refine Run.call (A:=[]) og nM a (qB _ S m Z l D (by omega)) fun Y I' S' w'=>?_;rintro ⟨rfl,rfl⟩ _ a;refine bC (by omega) ?_;exact ⟨⟨j+1,_,o,rfl,g,by omega,a⟩,by simp [intOf]; omega⟩
 have:j=ts.length:=by omega
 subst this;rw [eC,c7] at g;rw [eC] at hl;subst g;have M:(c7 ts []).length<=1000000000:=by
  have:cY ([]:List T)=0:=rfl;omega
 clear hl;generalize c7 ts []=vs at a M ⊢;obtain ⟨S1,f,r,a,_⟩:=Inv.lend (A:=[]) a;have r:=r.ints;have h:=h.mono f fun _ _ h=>h.mono f;refine ei a bn fun v1 w' a=>?_;refine ⟨fun i t w'=>∃ (k:Nat) (Ls:List bh) (css:List (List Value)),k<=ts.length/\i=.int .i64 k/\Grown 4 TrT Ls css (er vs (ts.take k))/\Inv w [] (aA t ab 4 css::aV Ls.flatten) S1 w',
  fun i _ _=>ts.length - (intOf i).toNat,⟨0,[],[],bk _,rfl,Grown.nil _ _,a⟩,?_⟩
 intro t6 _ _ t5 _ _ _ _ _ _ _ _ _ _ _ _ _ w';rintro ⟨k,Ls,css,hk,rfl,N,a⟩;refine aJ h ah ?_;refine bS ?_;refine aL (fun U=>?_) (fun U=>?_)
 ·have q:k<ts.length:=by omega
  have a2:(ts.take k).length=k:=by simp; omega
  have J:=N.hc;rw [mc] at J;have hm:=bG q;have a3:=iJ hm;refine co a h ah ad q (fun _ _=>RdT.length) fun cs V=>?_;refine Run.call0 wn ww a (Ey vs M _ S1 cs _ V r (by omega)) fun Y I' S' w'=>?_;rintro ⟨rfl,m,L,rfl,rfl,B⟩ _ a;refine de a 0 m bn (by omega) (by omega) rfl B.length B.one (by omega) (by omega) fun Y w' a=>?_;refine bC (by omega) ?_;refine ⟨⟨k+1,Ls++[L],css++[m],q,rfl,?_,?_⟩,by simp [intOf]; omega⟩
  ·rw [G3 vs ts k q];exact N.snoc B B.length
  ·simp only [mG,fh,k0,bV,cK];exact a
 ·have:k=ts.length:=by omega
  subst this;rw [d4] at N;obtain ⟨L,B,a⟩:=Inv.rowTree (A:=[]) a N;exact ⟨_,_,_,rfl,a.less f,Ext.refl _ _ _,rfl,_,rfl,B⟩
abbrev aaD (c:C):Value->List Item->ae->Prop:=fun v I' S'=>I'=[]/\∃ cs,v=.agg cs.toArray/\RdC S' cs c
theorem RdC.zero (S:ae):RdC S [.int .i64 0,.int .i64 0,.string ⟨#[]⟩,.slice none 0 0,.slice none 0 0] ⟨⟨0,0,⟨#[]⟩,[]⟩,[]⟩:=
 ⟨[.int .i64 0,.int .i64 0,.string ⟨#[]⟩,.slice none 0 0],.slice none 0 0,rfl,RdT.iff.2 ⟨_,rfl,by simp [inI,T.kind],by simp [inI,T.n],by rw [T.name]; decide +kernel,⟨none,0,rfl,aS _,bk _,.inl rfl⟩⟩,⟨none,0,rfl,aS _,bk _,.inl rfl⟩⟩
end
end
section
open Go Go.RowKit
mutual
def okU (N:Nat):T->Prop
 | .mk k n s ks=>k≠0/\(k=1->0<=n/\n<N/\s=emptyB/\ks=[])/\bL N ks/\s.size<=6
def bL (N:Nat):List T->Prop
 | []=>True
 | t::ts=>okU N t/\bL N ts
end
mutual
def vT:T->List Nat
 | .mk k n _ ks=>if k=1 then [n.toNat] else vTL ks
def vTL:List T->List Nat
 | []=>[]
 | t::ts=>vT t++vTL ts
end
theorem fM {N:Nat}:∀ {ts:List T},bL N ts->∀ t∈ts,okU N t
 | t::ts,h,x,a=>by
  rw [bL] at h;rcases bY.1 a with rfl|a
  ·exact h.1
  ·exact fM h.2 x a
theorem gw {N:Nat}:∀ {ts:List T},(∀ t∈ts,okU N t)->bL N ts
 | [],_=>by rw [bL]; trivial
 | t::ts,h=>by rw [bL]; exact ⟨h t (aM ..),gw fun u a=>h u (aR _ a)⟩
theorem nQ:∀ {ts:List T} {m:Nat},m∈vTL ts↔∃ t∈ts,m∈vT t
 | [],m=>by simp [vTL]
 | t::ts,m=>by rw [vTL,bF,nQ]; simp
theorem okU.kids {N:Nat} {t:T} (h:okU N t):bL N t.kids:=by cases t; rw [okU] at h; exact h.2.2.1
theorem okU.var {N:Nat} {t:T} (h:okU N t) (hk:t.kind=1):0<=t.n/\t.n<N/\t.name=emptyB/\t.kids=[]:=by cases t; rw [okU] at h; exact h.2.1 hk
theorem okU.kind {N:Nat} {t:T} (h:okU N t):t.kind≠0:=by cases t; rw [okU] at h; exact h.1
theorem jB {t:T} (h:t.kind=1):vT t=[t.n.toNat]:=by cases t; rw [vT]; exact ai h
theorem xE {t:T} (h:t.kind≠1):vT t=vTL t.kids:=by cases t; rw [vT]; exact ag h
mutual
theorem Vk {N:Nat}:∀ (t:T),okU N t->∀ m∈vT t,m<N
 | .mk k n s ks,h,m,hm=>by
  rw [okU] at h;rw [vT] at hm;split at hm
  ·rename_i hk
   have:=h.2.1 hk;simp at hm;omega
  ·exact Pt ks h.2.2.1 m hm
theorem Pt {N:Nat}:∀ (ts:List T),bL N ts->∀ m∈vTL ts,m<N
 | [],_,m,a=>by simp [vTL] at a
 | t::ts,h,m,a=>by
  rw [bL] at h;rw [vTL,bF] at a;rcases a with a|a
  ·exact Vk t h.1 m a
  ·exact Pt ts h.2 m a
end
def look (st:aj) (t:T):Option T:=if t.kind=1 then (st[t.n.toNat]?).join else none
theorem dh {st:aj} {t u:T}:look st t=some u↔t.kind=1/\st[t.n.toNat]?=some (some u):=by
 unfold look;split
 ·rename_i h
  simp only [Option.join_eq_some_iff];exact ⟨fun e=>⟨h,e⟩,fun e=>e.2⟩
 ·rename_i h
  simp [h]
theorem u7 {st:aj} {t:T}:look st t=none↔(t.kind=1->st[t.n.toNat]?=none ∨ st[t.n.toNat]?=some none):=by
 unfold look;split
 ·rename_i h
  rw [Option.join_eq_none_iff];constructor
  ·intro e _;rcases e with e|e
   ·exact .inl e
   ·exact .inr e
  ·intro e;rcases e h with e|e
   ·exact .inl e
   ·exact .inr e
 ·rename_i h
  simp [h]
inductive dr (st:aj):T->T->Prop
 | stop {t:T}:look st t=none->dr st t t
 | step {t u v:T}:look st t=some u->dr st u v->dr st t v
inductive Rch (st:aj):Nat->Nat->Prop
 | refl (m:Nat):Rch st m m
 | step {m k n:Nat} {u:T}:st[m]?=some (some u)->k∈vT u->Rch st k n->Rch st m n
theorem Rch.trans {st:aj} {a b c:Nat} (h:Rch st a b) (f:Rch st b c):Rch st a c:=by
 induction h with
 | refl=>exact f
 | step g i _ l=>exact .step g i (l f)
def fD (st:aj) (n:Nat) (t:T):Prop:=∃ m∈vT t,Rch st m n
structure Good (N:Nat) (st:aj):Prop where
 len:st.length=N
 ok:∀ t,some t∈st->okU N t
 w:∀ t,some t∈st->wT t<=1048576
 rk:∃ r:Nat->Nat,∀ (n:Nat) (u:T),st[n]?=some (some u)->∀ m∈vT u,r m<r n
theorem Good.look_ok {N:Nat} {st:aj} (h:Good N st) {t u:T} (hl:look st t=some u):okU N u/\wT u<=1048576:=by
 have:=cz (dh.1 hl).2;exact ⟨h.ok u this,h.w u this⟩
theorem dz {N:Nat} {st:aj} {t v:T} (h:Good N st) (a:dr st t v) (f:okU N t/\wT t<=1048576):okU N v/\wT v<=1048576:=by
 induction a with
 | stop=>exact f
 | step hl _ g=>exact g (h.look_ok hl)
theorem gI {st:aj} {t v:T} (a:dr st t v):look st v=none:=by
 induction a with
 | stop h=>exact h
 | step _ _ f=>exact f
theorem RX {N:Nat} {st:aj} (h:Good N st) (t:T):∃ v,dr st t v:=by
 obtain ⟨r,g⟩:=h.rk;have:∀ (k:Nat) (t:T),(∀ u,look st t=some u->r t.n.toNat<k)->∃ v,dr st t v:=by
  intro k;induction k with
  | zero=>
   intro t a;cases hl:look st t with
   | none=>exact ⟨t,.stop hl⟩
   | some u=>have:=a u hl; omega
  | succ k l=>
   intro t a;cases hl:look st t with
   | none=>exact ⟨t,.stop hl⟩
   | some u=>
    have o:=a u hl;obtain ⟨v,i⟩:=l u fun m f=>by
     obtain ⟨hk,_⟩:=dh.1 f;have:=g _ _ (dh.1 hl).2 u.n.toNat (by rw [jB hk]; simp);omega
    exact ⟨v,.step hl i⟩
 exact this (r t.n.toNat+1) t fun _ _=>Qa _
theorem UR {st:aj} {t v:T} (i:dr st t v) {n:Nat} (hn:∀ u,st[n]?≠some (some u)):fD st n t↔fD st n v:=by
 induction i with
 | stop=>exact Iff.rfl
 | step hl _ l=>
  rename_i t u v
  rw [<- l];obtain ⟨hk,g⟩:=dh.1 hl;constructor
  ·rintro ⟨m,a,f⟩;rw [jB hk,bK] at a;subst a;cases f with
   | refl=>exact absurd g (hn _)
   | step h o q=>
    rw [g,aY,aY] at h;subst h;exact ⟨_,o,q⟩
  ·rintro ⟨m,a,f⟩;exact ⟨_,by rw [jB hk]; exact bK.2 rfl,.step g a f⟩
def unb:aj->Nat
 | []=>0
 | none::st=>unb st+1
 | some _::st=>unb st
theorem uX:∀ (st:aj) (n:Nat) (t:T),st[n]?=some none->unb (st.set n (some t))+1=unb st
 | [],n,t,h=>by simp at h
 | x::st,0,t,h=>by
  simp only [IC,aY] at h;subst h;rfl
 | x::st,n+1,t,h=>by
  have a:st[n]?=some none:=by simpa using h
  have:=uX st n t a;cases x <;> simp only [Kt,unb] <;> omega
open Classical in
theorem Good.set {N:Nat} {st:aj} (h:Good N st) {n:Nat} {t:T} (hn:st[n]?=some none) (J:okU N t) (O:wT t<=1048576) (U:¬ fD st n t):Good N (st.set n (some t)):=by
 have B:n<st.length:=(fa.1 hn).1;refine ⟨by rw [ly]; exact h.len,fun u a=>?_,fun u a=>?_,?_⟩
 ·rcases E6 a with a|a
  ·exact h.ok u a
  ·rw [aY] at a;rw [a]; exact J
 ·rcases E6 a with a|a
  ·exact h.w u a
  ·rw [aY] at a;rw [a]; exact O
 ·obtain ⟨r,V⟩:=h.rk;have o:∀ l:List Nat,∃ M,∀ m∈l,r m<=M:=by
   intro l;induction l with
   | nil=>exact ⟨0,by simp⟩
   | cons x l Y=>
    obtain ⟨M,o⟩:=Y;refine ⟨M+r x,fun m g=>?_⟩;rcases bY.1 g with rfl|g
    ·omega
    ·have:=o m g; omega
  obtain ⟨M,o⟩:=o (vT t);refine ⟨fun m=>if Rch st m n then r m+M+1 else r m,fun k u f m g=>?_⟩;by_cases q:n=k
  ·subst q;rw [Rv B,aY,aY] at f;subst f;have D:¬ Rch st m n:=fun e=>U ⟨m,g,e⟩;have G:=o m g;simp only [ag D,ai (Rch.refl (st:=st) n)];omega
  ·rw [yb q] at f;have D:=V k u f m g;by_cases i:Rch st m n
   ·have G:Rch st k n:=.step f g i;simp only [ai i,ai G];omega
   ·simp only [ag i];split <;> omega
inductive Job where
 | one (a b:T)
 | list (xs ys:List T)
inductive Uni:aj->Job->Bool->aj->Prop
 | same {st:aj} {a b a' b':T}:dr st a a'->dr st b b'->a'.kind=1->b'.kind=1->a'.n=b'.n->Uni st (.one a b) true st
 | bindA {st:aj} {a b a' b':T}:dr st a a'->dr st b b'->a'.kind=1->¬ (b'.kind=1/\a'.n=b'.n)->¬ fD st a'.n.toNat b'->Uni st (.one a b) true (st.set a'.n.toNat (some b'))
 | occA {st:aj} {a b a' b':T}:dr st a a'->dr st b b'->a'.kind=1->¬ (b'.kind=1/\a'.n=b'.n)->fD st a'.n.toNat b'->Uni st (.one a b) false st
 | bindB {st:aj} {a b a' b':T}:dr st a a'->dr st b b'->a'.kind≠1->b'.kind=1->¬ fD st b'.n.toNat a'->Uni st (.one a b) true (st.set b'.n.toNat (some a'))
 | occB {st:aj} {a b a' b':T}:dr st a a'->dr st b b'->a'.kind≠1->b'.kind=1->fD st b'.n.toNat a'->Uni st (.one a b) false st
 | clash {st:aj} {a b a' b':T}:dr st a a'->dr st b b'->a'.kind≠1->b'.kind≠1->py a' b'=false->Uni st (.one a b) false st
 | kids {st st':aj} {a b a' b':T} {r:Bool}:dr st a a'->dr st b b'->a'.kind≠1->b'.kind≠1->py a' b'=true->Uni st (.list a'.kids b'.kids) r st'->Uni st (.one a b) r st'
 | nil {st:aj}:Uni st (.list [] []) true st
 | stop {st st':aj} {a b:T} {xs ys:List T}:Uni st (.one a b) false st'->Uni st (.list (a::xs) (b::ys)) false st'
 | go {st st1 st':aj} {a b:T} {xs ys:List T} {r:Bool}:Uni st (.one a b) true st1->Uni st1 (.list xs ys) r st'->Uni st (.list (a::xs) (b::ys)) r st'
def okJ (N:Nat):Job->Prop
 | .one a b=>(okU N a/\wT a<=1048576)/\(okU N b/\wT b<=1048576)
 | .list xs ys=>(∀ a∈xs,okU N a/\wT a<=1048576)/\(∀ b∈ys,okU N b/\wT b<=1048576)/\xs.length=ys.length
theorem jn {N:Nat} {t:T} (h:okU N t/\wT t<=1048576):∀ x∈t.kids,okU N x/\wT x<=1048576:=by
 intro x a;refine ⟨fM h.1.kids x a,?_⟩;have f:=iJ a;have g:=h.2;cases t;rw [wT] at g;simp only [T.kids] at f;omega
theorem pM {a b:T} (h:py a b=true):a.kids.length=b.kids.length:=by
 rw [py] at h;simp only [bM,bD] at h;exact h.2.2.2
theorem p7 {N:Nat} {st:aj} (h:Good N st) {a:T} (hk:a.kind=1) (hl:look st a=none) (f:okU N a):st[a.n.toNat]?=some none:=by
 obtain ⟨g,i,_⟩:=f.var hk;rcases u7.1 hl hk with e|e
 ·have:=List.getElem?_eq_none_iff.1 e;have:=h.len;omega
 ·exact e
theorem Uni.good {N:Nat} {st g:aj} {j:Job} {r:Bool} (U:Uni st j r g):Good N st->okJ N j->Good N g/\(g=st ∨ unb g<unb st):=by
 induction U with
 | same=>exact fun h _=>⟨h,.inl rfl⟩
 | occA=>exact fun h _=>⟨h,.inl rfl⟩
 | occB=>exact fun h _=>⟨h,.inl rfl⟩
 | clash=>exact fun h _=>⟨h,.inl rfl⟩
 | nil=>exact fun h _=>⟨h,.inl rfl⟩
 | bindA i l hk t B=>
  rename_i M O
  intro h f;have o:=dz h i f.1;have m:=dz h l f.2;have hf:=p7 h hk (gI i) o.1;have:=uX _ _ O hf;exact ⟨h.set hf m.1 m.2 B,.inr (by omega)⟩
 | bindB i l t hk B=>
  rename_i M O
  intro h f;have o:=dz h i f.1;have m:=dz h l f.2;have hf:=p7 h hk (gI l) m.1;have:=uX _ _ M hf;exact ⟨h.set hf o.1 o.2 B,.inr (by omega)⟩
 | kids i l _ _ hd _ D=>
  intro h f;exact D h ⟨jn (dz h i f.1),jn (dz h l f.2),pM hd⟩
 | stop _ D=>
  intro h f;exact D h ⟨f.1 _ (aM ..),f.2.1 _ (aM ..)⟩
 | go _ _ G J=>
  intro h f;obtain ⟨o,m⟩:=G h ⟨f.1 _ (aM ..),f.2.1 _ (aM ..)⟩;obtain ⟨V,q⟩:=J o ⟨fun a i=>f.1 a (aR _ i),fun b l=>f.2.1 b (aR _ l),by have:=f.2.2; simpa using this⟩;refine ⟨V,?_⟩;rcases m with rfl|m
  ·exact q
  ·rcases q with rfl|q
   ·exact .inr m
   ·exact .inr (by omega)
open Classical in
theorem FI {N:Nat}:∀ (U:Nat) (st:aj),Good N st->unb st<=U->∀ j,okJ N j->∃ r f,Uni st j r f:=by
 intro U;induction U using Nat.strongRecOn with
 | _ U b3=>
  intro st hg hU
  -- lists of terms of which each is known to have an answer
  have G:∀ (xs ys:List T),okJ N (.list xs ys)->(∀ a∈xs,∀ b,okJ N (.one a b)->∃ r f,Uni st (.one a b) r f)->∃ r f,Uni st (.list xs ys) r f:=by
   intro xs;induction xs with
   | nil=>
    intro ys i _;have:ys=[]:=gF i.2.2.symm;subst this;exact ⟨true,st,.nil⟩
   | cons a xs ih=>
    intro ys i hP;cases ys with
    | nil=>have:=i.2.2; simp at this
    | cons b ys=>
     have V:okJ N (.one a b):=⟨i.1 _ (aM ..),i.2.1 _ (aM ..)⟩
     have a3:okJ N (.list xs ys):=⟨fun a D=>i.1 a (aR _ D),fun b J=>i.2.1 b (aR _ J),by have:=i.2.2; simpa using this⟩
     obtain ⟨r,Z,h⟩:=hP a (aM ..) b V;cases r with
     | false=>exact ⟨false,Z,.stop h⟩
     | true=>
      obtain ⟨a7,a2⟩:=h.good hg V;rcases a2 with rfl|a2
      ·obtain ⟨r,a0,o⟩:=ih ys a3 fun a D=>hP a (aR _ D);exact ⟨r,a0,.go h o⟩
      ·obtain ⟨r,a0,o⟩:=b3 (unb Z) (by omega) Z a7 (aS _) _ a3;exact ⟨r,a0,.go h o⟩
  obtain ⟨rk,a8⟩:=hg.rk;have a4:∀ (m:Nat) (a:T),(∀ x∈vT a,∀ u,st[x]?=some (some u)->rk x<m)->∀ b,okJ N (.one a b)->∃ r f,Uni st (.one a b) r f:=by
   intro m;induction m using Nat.strongRecOn with
   | _ m b4=>
    refine T.ind fun k n s ks ih hr b i=>?_;obtain ⟨b',J⟩:=RX hg b;have a9:=dz hg J i.2;cases hl:look st (.mk k n s ks) with
    | some u=>
     obtain ⟨hk,hs⟩:=dh.1 hl;have b0:=hr _ (by rw [jB hk]; exact bK.2 rfl) u hs;have b1:okJ N (.one u b):=⟨hg.look_ok hl,i.2⟩
     obtain ⟨r,f,hu⟩:=b4 _ b0 u (fun x hx _ _=>a8 _ _ hs x hx) b b1;refine ⟨r,f,?_⟩;cases hu with
     | same h o q t B=>exact .same (.step hl h) o q t B
     | bindA h o q t B=>exact .bindA (.step hl h) o q t B
     | occA h o q t B=>exact .occA (.step hl h) o q t B
     | bindB h o q t B=>exact .bindB (.step hl h) o q t B
     | occB h o q t B=>exact .occB (.step hl h) o q t B
     | clash h o q t B=>exact .clash (.step hl h) o q t B
     | kids h o q t B h6=>exact .kids (.step hl h) o q t B h6
    | none=>
     have D:dr st (.mk k n s ks) (.mk k n s ks):=.stop hl;by_cases hk:(T.mk k n s ks).kind=1
     ·by_cases g:b'.kind=1/\(T.mk k n s ks).n=b'.n
      ·exact ⟨_,_,.same D J hk g.1 g.2⟩
      ·by_cases ho:fD st (T.mk k n s ks).n.toNat b'
       ·exact ⟨_,_,.occA D J hk g ho⟩
       ·exact ⟨_,_,.bindA D J hk g ho⟩
     ·by_cases O:b'.kind=1
      ·by_cases ho:fD st b'.n.toNat (T.mk k n s ks)
       ·exact ⟨_,_,.occB D J hk O ho⟩
       ·exact ⟨_,_,.bindB D J hk O ho⟩
      ·cases hd:py (T.mk k n s ks) b' with
       | false=>exact ⟨_,_,.clash D J hk O hd⟩
       | true=>
        obtain ⟨r,f,hu⟩:=G ks b'.kids ⟨jn i.1,jn a9,pM hd⟩ fun a a1 b2 a5=>
         ih a a1 (fun x hx u hs=>hr x (by rw [xE hk]; exact nQ.2 ⟨a,a1,hx⟩) u hs) b2 a5
        exact ⟨r,f,.kids D J hk O hd hu⟩
  have Y:∀ a b,okJ N (.one a b)->∃ r f,Uni st (.one a b) r f:=by
   intro a b i;have hM:∀ l:List Nat,∃ M,∀ m∈l,rk m<M:=by
    intro l;induction l with
    | nil=>exact ⟨0,by simp⟩
    | cons x l ih=>
     obtain ⟨M,hM⟩:=ih;refine ⟨M+rk x+1,fun m hm=>?_⟩;rcases bY.1 hm with rfl|hm
     ·omega
     ·have:=hM m hm; omega
   obtain ⟨M,hM⟩:=hM (vT a);exact a4 M a (fun x hx _ _=>hM x hx) b i
  intro j i;cases j with
  | one a b=>exact Y a b i
  | list xs ys=>exact G xs ys i fun a _ b a6=>Y a b a6
inductive M8 where
 | one (t u:T)
 | list (ts us:List T)
inductive Res (st:aj):M8->Prop
 | one {t v:T} {us:List T}:dr st t v->Res st (.list v.kids us)->Res st (.one t (.mk v.kind v.n v.name us))
 | nil:Res st (.list [] [])
 | cons {t u:T} {ts us:List T}:Res st (.one t u)->Res st (.list ts us)->Res st (.list (t::ts) (u::us))
theorem Kj {N:Nat} {st:aj} (h:Good N st) (t:T) (B:okU N t):∃ u,Res st (.one t u):=by
 obtain ⟨rk,O⟩:=h.rk;have i:∀ ts:List T,(∀ t∈ts,∃ u,Res st (.one t u))->∃ us,Res st (.list ts us):=by
  intro ts;induction ts with
  | nil=>exact fun _=>⟨[],.nil⟩
  | cons t ts o=>
   intro Z;obtain ⟨u,U⟩:=Z t (aM ..);obtain ⟨us,g⟩:=o fun x f=>Z x (aR _ f);exact ⟨u::us,.cons U g⟩
 have r:∀ (m:Nat) (a:T),(∀ x∈vT a,∀ u,st[x]?=some (some u)->rk x<m)->(okU N a)->∃ u,Res st (.one a u):=by
  intro m;induction m using Nat.strongRecOn with
  | _ m Y=>
   refine T.ind fun k n s ks o hr B=>?_;cases hl:look st (.mk k n s ks) with
   | some u=>
    obtain ⟨hk,D⟩:=dh.1 hl;have V:=hr _ (by rw [jB hk]; exact bK.2 rfl) u D;obtain ⟨u',U⟩:=Y _ V u (fun x f _ _=>O _ _ D x f) (h.look_ok hl).1;refine ⟨u',?_⟩;cases U with
    | one h1 h2=>exact .one (.step hl h1) h2
   | none=>
    by_cases hk:(T.mk k n s ks).kind=1
    ·have:=(B.var hk).2.2.2;have e:ks=[]:=this;subst e;exact ⟨_,.one (.stop hl) .nil⟩
    ·obtain ⟨us,g⟩:=i ks fun a G=>o a G (fun x f u D=>hr x (by rw [xE hk]; exact nQ.2 ⟨a,G,f⟩) u D) (fM B.kids a G);exact ⟨_,.one (.stop hl) g⟩
 have q:∀ l:List Nat,∃ M,∀ m∈l,rk m<M:=by
  intro l;induction l with
  | nil=>exact ⟨0,by simp⟩
  | cons x l o=>
   obtain ⟨M,q⟩:=o;refine ⟨M+rk x+1,fun m J=>?_⟩;rcases bY.1 J with rfl|J
   ·omega
   ·have:=q m J; omega
 obtain ⟨M,q⟩:=q (vT t);exact r M t (fun x f _ _=>q x f) B
end
end Go.Proofs.YtgllldjiaglkcaaGreatDoor
