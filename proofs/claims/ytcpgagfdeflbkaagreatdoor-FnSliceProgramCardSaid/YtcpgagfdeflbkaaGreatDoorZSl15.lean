/- impl's search: how the trail's marks tie each choice's table to the present one. No program in sight. -/
import Derived.Test.YtcpgagfdeflbkaaGreatDoorZSl14
import Derived.Test.YtcpgagfdeflbkaaGreatDoorZSl12
import Derived.Test.YtcpgagfdeflbkaaGreatDoorZSl13
import Derived.Test.YtcpgagfdeflbkaaGreatDoorZSl8
namespace Go.Proofs.YtcpgagfdeflbkaaGreatDoor
section
open Go Go.RowKit
theorem l5 (st:aj):∀ ns:List Int,(ec st ns).length=st.length:=by
 intro ns
 induction ns generalizing st with
 | nil=>rfl
 | cons n ns ih=>
  have h:=ih st
  have e:ec st (n::ns)=ec (ec st ns) [n]:=qs st [n] ns
  rw [e,show ec (ec st ns) [n]=(ec st ns).set n.toNat none from wZ _ [] n,oI,h]
theorem NP (st:aj) (k:Nat):∀ ns:List Int,ec (st++List.replicate k none) ns=ec st ns++List.replicate k none:=by
 intro ns
 apply tk
 intro i
 rw [mp]
 by_cases hi:i<st.length
 ·rw [vo hi,vo (by rw [l5]; exact hi),mp]
 ·rw [gP (by omega),gP (by rw [l5]; omega),l5,OB]
  split
  ·split <;> rfl
  ·rfl
theorem Jq (st:aj) {n m:Nat} (h:st.length<=n) (h':n<=m):bU (bU st n) m=bU st m:=by
 unfold bU
 rw [eI,Oa]
 congr 2
 simp
 omega
theorem IK (st:aj) (n:Nat) (ns:List Int):ec (bU st n) ns=bU (ec st ns) n:=by
 unfold bU
 rw [NP,l5]
def TrG (st st':aj) (tr tr':List Int):Prop:=st.length<=st'.length/\∃ ns,tr'=tr++ns/\ec st' ns=bU st st'.length/\∀ n∈ns,0<=n
theorem TrG.refl (st:aj) (tr:List Int):TrG st st tr tr:=⟨aM _,[],(cX _).symm,by rw [lw]; rfl,by simp⟩
theorem TrG.grow (st:aj) (tr:List Int) {n:Nat} (h:st.length<=n):TrG st (bU st n) tr tr:=⟨by rw [dI h]; exact h,[],(cX _).symm,by rw [dI h]; rfl,by simp⟩
theorem TrG.of {st st':aj} {tr tr':List Int} (h:Tr st st' tr tr'):TrG st st' tr tr':=by
 obtain ⟨ns,h1,h2,h3,_⟩:=h
 have hl:st'.length=st.length:=by rw [<- h2,l5]
 refine ⟨by omega,ns,h1,by rw [h2,hl,lw],fun n hn=>?_⟩
 obtain ⟨j,rfl,_⟩:=h3 n hn
 omega
theorem TrG.trans {a b c:aj} {x y z:List Int} (h:TrG a b x y) (h':TrG b c y z):TrG a c x z:=by
 obtain ⟨l1,n1,e1,u1,p1⟩:=h
 obtain ⟨l2,n2,e2,u2,p2⟩:=h'
 refine ⟨by omega,n1++n2,by rw [e2,e1,eI],?_,fun n hn=>(cd.1 hn).elim (p1 n) (p2 n)⟩
 rw [qs,u2,IK,u1,Jq _ l1 l2]
theorem Tr.short {st st':aj} {tr tr':List Int} (h:Tr st st' tr tr'):tr'.length+unb st'<=tr.length+unb st:=by
 obtain ⟨ns,rfl,_,_,h4⟩:=h
 rw [bh]
 omega
theorem nP:∀ (st:aj) (k:Nat),unb (st++List.replicate k none)=unb st+k
 | [],k=>by rw [sv,Ai]; simp [unb]
 | none::st,k=>by simp only [gt,unb,nP st k]; omega
 | some t::st,k=>by simp only [gt,unb,nP st k]
inductive MkI:List CI->List Nat->aj->List Int->Prop
 | nil {st:aj} {tr:List Int}:MkI [] [] st tr
 | snoc {cs:List CI} {c:CI} {ms:List Nat} {st:aj} {tr0 tr:List Int}:MkI cs ms c.binds tr0->TrG c.binds st tr0 tr->MkI (cs++[c]) (ms++[tr0.length]) st tr
theorem MkI.len {cs:List CI} {ms:List Nat} {st:aj} {tr:List Int} (h:MkI cs ms st tr):ms.length=cs.length:=by
 induction h with
 | nil=>rfl
 | snoc _ _ ih=>rw [bh,bh,ih]; rfl
theorem MkI.go {cs:List CI} {ms:List Nat} {st st':aj} {tr tr':List Int} (h:MkI cs ms st tr) (hg:TrG st st' tr tr'):MkI cs ms st' tr':=by
 cases h with
 | nil=>exact .nil
 | snoc h1 h2=>exact .snoc h1 (h2.trans hg)
theorem MkI.push {cs:List CI} {c:CI} {ms:List Nat} {tr:List Int} (h:MkI cs ms c.binds tr):MkI (cs++[c]) (ms++[tr.length]) c.binds tr:=.snoc h (TrG.refl _ _)
theorem MkI.pop {cs:List CI} {c:CI} {ms:List Nat} {st:aj} {tr:List Int} (h:MkI (cs++[c]) ms st tr):∃ (ms0:List Nat) (m:Nat),ms=ms0++[m]/\m<=tr.length/\(∀ n∈tr.drop m,0<=n)/\ec st (tr.drop m)=bU c.binds st.length/\
  MkI cs ms0 (bU c.binds st.length) (tr.take m)/\MkI cs ms0 st tr:=by
 generalize hl:cs++[c]=l at h
 cases h with
 | nil=>simp at hl
 | @snoc cs' c' ms0 _ tr0 _ h1 h2=>
  obtain ⟨rfl,hc⟩:=Ps hl rfl
  simp only [jl,jP] at hc
  subst hc
  obtain ⟨l1,ns,rfl,hu,hp⟩:=h2
  refine ⟨ms0,tr0.length,rfl,by simp,by simpa using hp,by simpa using hu,?_,h1.go ⟨l1,ns,rfl,hu,hp⟩⟩
  have:=h1.go (TrG.grow c.binds tr0 l1)
  simpa using this
theorem MkI.take {cs:List CI} {ms:List Nat} {st:aj} {tr:List Int}:∀ (k:Nat) (_:MkI cs ms st tr),MkI (cs.take (cs.length - k)) (ms.take (cs.length - k)) st tr
 | 0,h=>by
  have:=h.len
  rw [Nat.sub_zero,fM,<- this,fM]; exact h
 | k+1,h=>by
  have hk:=MkI.take k h
  by_cases hz:cs.length - k=0
  ·rw [show cs.length - (k+1)=0 by omega,Gc,Gc]; exact .nil
  have hl:=h.len
  obtain ⟨j,hj⟩:∃ j,cs.length - k=j+1:=⟨cs.length - k - 1,by omega⟩
  have hjc:j<cs.length:=by omega
  rw [hj,fy hjc] at hk
  obtain ⟨ms0,m,e,_,_,_,_,h2⟩:=hk.pop
  have hl0:ms0.length=j:=by have:=h2.len; rw [dN] at this; omega
  have e2:ms0=ms.take j:=by
   have h3:=congrArg (List.take j) e
   rw [sF,qN (by omega),List.take_left' hl0] at h3
   exact h3.symm
  rw [show cs.length - (k+1)=j by omega,<- e2]
  exact h2
theorem MkI.cut {cs:List CI} {ms:List Nat} {st:aj} {tr:List Int} (h:MkI cs ms st tr) {k:Nat} (hk:k<=cs.length):MkI (cs.take k) (ms.take k) st tr:=by
 have:=MkI.take (cs.length - k) h
 rwa [show cs.length - (cs.length - k)=k by omega] at this
end
section
open Go Go.RowKit
inductive GL (S:ad):Value->List GI->Prop
 | nil:GL S (.pointer none) []
 | cons {b:Nat} {a0 a1 a2 a3 nv:Value} {E:TypeId} {fz:Nat × Nat} {g:GI} {gs:List GI}:S b=some (.cells #[a0,a1,a2,a3,.int .i64 g.cut,.int .i64 g.up,nv] E fz)->RdT S [a0,a1,a2,a3] g.t->GL S nv gs->GL S (.pointer (some ⟨b,0,none⟩)) (g::gs)
theorem GL.mono {S S':ad} (hs:Sle S S') {v:Value} {gs:List GI} (h:GL S v gs):GL S' v gs:=by
 induction h with
 | nil=>exact .nil
 | cons h1 h2 _ ih=>exact .cons (hs _ _ h1) (h2.mono hs) ih
theorem GL.ptr {S:ad} {v:Value} {gs:List GI} (h:GL S v gs):∃ p,v=.pointer p:=by
 cases h with
 | nil=>exact ⟨_,rfl⟩
 | cons=>exact ⟨_,rfl⟩
theorem RdT.four {S:ad} {cs:List Value} {t:T} (h:RdT S cs t):∃ a0 a1 a2 a3,cs=[a0,a1,a2,a3]:=by
 obtain ⟨kv,rfl,_⟩:=RdT.iff.1 h
 exact ⟨_,_,_,_,rfl⟩
section
variable {w:World} {K:Value->World->Prop}
attribute [local irreducible] Run
theorem NH {a b c d:Value} {i j:Int} {p:Option Addr} (hk:K (.agg #[a,b,c,d,.int .i64 i,.int .i64 j,.pointer p]) w):Run Tryz.prog (cn lD [(0,.agg #[a,b,c,d]),(1,.int .i64 i),(2,.int .i64 j),(3,.pointer p)]) w K:=by
 refine Run.of (v:=.agg #[a,b,c,d,.int .i64 i,.int .i64 j,.pointer p]) (w':=w) ?_ hk
 unfold cn
 rw [Sem.run_bind,run_build w lD _ #[a,b,c,d,.int .i64 i,.int .i64 j,.pointer p] (by kernel_rfl),Result.andThen_ok]
 rfl
theorem IY {a b c d:Value} {i j:Int} (hk:K (.agg #[a,b,c,d,.int .i64 i,.int .i64 j]) w):Run Tryz.prog (cn jw [(0,.agg #[a,b,c,d]),(1,.int .i64 i),(2,.int .i64 j)]) w K:=by
 refine Run.of (v:=.agg #[a,b,c,d,.int .i64 i,.int .i64 j]) (w':=w) ?_ hk
 unfold cn
 rw [Sem.run_bind,run_build w jw _ #[a,b,c,d,.int .i64 i,.int .i64 j] (by kernel_rfl),Result.andThen_ok]
 rfl
theorem CY {a b c d:Value} {i j k:Int} {p:Option Addr} {q:Option Addr} {n m:Nat} (hk:K (.agg #[a,b,c,d,.int .i64 i,.pointer p,.slice q n m,.int .i64 j,.int .i64 k]) w) :
  Run Tryz.prog (cn dB [(0,.agg #[a,b,c,d]),(1,.int .i64 i),(2,.pointer p),(3,.slice q n m),(4,.int .i64 j),(5,.int .i64 k)]) w K:=by
 refine Run.of (v:=.agg #[a,b,c,d,.int .i64 i,.pointer p,.slice q n m,.int .i64 j,.int .i64 k]) (w':=w) ?_ hk
 unfold cn
 rw [Sem.run_bind,run_build w dB _ #[a,b,c,d,.int .i64 i,.pointer p,.slice q n m,.int .i64 j,.int .i64 k] (by kernel_rfl),Result.andThen_ok]
 rfl
end
section
attribute [local irreducible] Run CondV aq aK
theorem EW {ts:List T} {S:ad} {v gv:Value} {gs:List GI} {cut up:Int} (h:RdSl S 4 (RdT S) v ts) (hg:GL S gv gs):Tri Tryz.prog Qq [v,.int .i64 cut,.int .i64 up,gv] [] S fun q I' S'=>I'=[]/\GL S' q (ts.map (fun t=>⟨t,cut,up⟩)++gs):=by
 intro w hI
 have hlen:=h.le
 simp only [maxLen] at hlen
 refine Ig.2 ?_
 dsimp only[Ig,jr]
 refine aF h ah ?_
 refine kY (by omega) ?_
 refine ⟨fun i q w'=>∃ (j:Nat) (S1:ad),j<=ts.length/\i=.int .i64 ((j:Int) - 1)/\Ext w.heap.size [] S S1/\GL S1 q ((ts.drop j).map (fun t=>⟨t,cut,up⟩)++gs)/\Inv w [] [] S1 w',fun i _ _=>((intOf i)+1).toNat,
  ⟨ts.length,S,aM _,rfl,Ext.refl _ _ _,by rw [dP]; exact hg,hI⟩,?_⟩
 intro t9 _ _ t3 _ _ _ _ _ _ _ _ _ _ _ w'
 rintro ⟨j,S1,hj,rfl,hE,hgl,hI⟩
 refine kX ?_
 refine aH (fun h0=>?_) (fun h0=>?_)
 ·obtain ⟨k,rfl⟩:∃ k,j=k+1:=⟨j - 1,by omega⟩
  have hk:k<ts.length:=by omega
  rw [show (((k+1:Nat):Int) - 1)=(k:Int) by omega]
  refine cj hI (h.monoT hE.1) ah ac hk (fun _ _=>RdT.length) fun cs hcs=>?_
  obtain ⟨a0,a1,a2,a3,rfl⟩:=hcs.four
  obtain ⟨p,rfl⟩:=hgl.ptr
  refine NH ?_
  refine bp hI fun b w' hI=>?_
  have hI:Inv w [] ([]++[.blk b (.cells #[a0,a1,a2,a3,.int .i64 cut,.int .i64 up,.pointer p] lD)]) S1 w':=hI
  obtain ⟨S2,hI,hE2,hS2⟩:=Inv.pub1 hI
  refine kY (by omega) ?_
  refine ⟨⟨k,S2,by omega,rfl,hE.trans hE2,?_,hI⟩,by simp only [intOf]; omega⟩
  rw [di hk,pj,gt]
  exact GL.cons hS2 (hcs.mono hE2.1) (hgl.mono hE2.1)
 ·have:j=0:=by omega
  subst this
  exact ⟨_,_,S1,rfl,hI,hE,rfl,by simpa using hgl⟩
theorem Nf {S:ad} {b:Nat} {by_:Int} {E:TypeId} {fz:Nat × Nat} (hb:S b=some (.cells #[.int .i64 by_] E fz)) (h0:0<=by_/\by_<=10000000):Fun mN [.pointer (some ⟨b,0,none⟩)] S fun n=>.mk 1 (n+by_) ⟨#[]⟩ []:=by
 intro S' hle n hn0 hn25
 have hb':=hle _ _ hb
 refine ⟨[.int .i64 1,.int .i64 (n+by_),.string ⟨#[]⟩,.slice none 0 0],RdT.nil (by simp [inI]) (by simp only [inI]; omega) (show 0<=maxLen from aR _) (by simp [maxLen]),fun w hI=>?_⟩
 refine kW.2 ?_
 dsimp only[kW,aO]
 refine aP hI aZ fun b2 w' hI=>?_
 refine cA aI (by rw [hI.cellS hb']; rfl) ?_
 refine bn (by omega) ?_
 refine Run.callPure lP lJ hI (kA _ S') fun w' hI=>?_
 refine aA hI 0 rfl ac rfl rfl (by simp [Value.oneCell']) fun w' hI=>?_
 refine bw hI 0 ac rfl rfl ?_
 exact done hI rfl
end
mutual
theorem pM {N:Nat} (b:Nat):∀ t:T,okU N t->DJ (fun n=>.mk 1 (n+(b:Int)) ⟨#[]⟩ []) t=dl b t
 | .mk k n s ks,h=>by
  rw [okU] at h
  rw [DJ,dl]
  by_cases hk:k=1
  ·have h1:=h.2.1 hk
   rw [ai hk,ai hk,h1.2.2.2,fH,h1.2.2.1,hk]
   rfl
  ·rw [af hk,af hk,uM b ks h.2.2.1]
theorem uM {N:Nat} (b:Nat):∀ ts:List T,cS N ts->tX (fun n=>.mk 1 (n+(b:Int)) ⟨#[]⟩ []) ts=fH b ts
 | [],_=>rfl
 | t::ts,h=>by
  rw [cS] at h
  rw [tX,fH,pM b t h.1,uM b ts h.2]
end
end
section
open Go Go.RowKit
theorem yG {k f:Nat} {x:Value}:∀ (css:List (List Value)) (j:Nat) (_:∀ cs∈css,cs.length=k) (h:j<css.length) (_:f<k),css.flatten.set (j * k+f) x=(css.set j (css[j].set f x)).flatten
 | [],j,_,h,_=>by simp at h
 | c::css,0,hk,_,hf=>by
  have:=hk c (bq ..)
  rw [gx,wG,cZ,Lp _ _ (by omega)]
  rfl
 | c::css,j+1,hk,h,hf=>by
  have hc:=hk c (bq ..)
  have ih:=yG (x:=x) css j (fun cs hcs=>hk cs (bv _ hcs)) (by simpa using h) hf
  have e:(j+1) * k+f=c.length+(j * k+f):=by rw [jc,hc]; omega
  rw [gx,e,List.set_append_right _ _ (by omega),qj,ih]
  rfl
theorem GF (c:Array Value) (p:Nat) (x:Value) (h:p<c.size):(bR c p [x]).toList=c.toList.set p x:=by
 unfold bR
 rw [AH,ai (by simpa using h)]
 simp
theorem Rows.set {α:Type} {k:Nat} {R:List Value->α->Prop} {css:List (List Value)} {ys:List α} (h:Rows k R css ys) {cs:List Value} {y:α} (j:Nat) (hR:R cs y) (hl:cs.length=k):Rows k R (css.set j cs) (ys.set j y):=by
 refine ⟨by rw [oI,oI,h.hc],fun c hc=>?_,fun i h0 h2=>?_⟩
 ·rcases Jc hc with hc|rfl
  ·exact h.hk c hc
  ·exact hl
 ·rw [List.getElem_set,List.getElem_set]
  split
  ·exact hR
  ·exact h.hR i (by simpa using h0) (by simpa using h2)
theorem Rows.take {α:Type} {k:Nat} {R:List Value->α->Prop} {css:List (List Value)} {ys:List α} (h:Rows k R css ys) (n:Nat):Rows k R (css.take n) (ys.take n):=by
 have:=h.hc
 refine ⟨by rw [dN,dN,h.hc],fun c hc=>h.hk c (List.mem_of_mem_take hc),fun i h0 h2=>?_⟩
 rw [dN] at h0
 simp only [Ik]
 exact h.hR i (by omega) (by omega)
theorem u0 {k:Nat}:∀ (css:List (List Value)) (n:Nat) (_:∀ cs∈css,cs.length=k),css.flatten.take (n * k)=(css.take n).flatten
 | [],n,_=>by simp
 | c::css,0,_=>by simp
 | c::css,n+1,hk=>by
  have hc:=hk c (bq ..)
  have ih:=u0 css n fun cs hcs=>hk cs (bv _ hcs)
  rw [gx,jc,n3,List.take_append,Fe (by omega),hc,qj,ih]
  rfl
def QV (v:Value) (h:Nat):Value:=match v with
 | .slice a _ cap=>.slice a h cap
 | v=>v
section
variable {P:Program} {w w0:World} {X:List Nat} {L:List Item} {S:ad} {K:Value->World->Prop}
attribute [local irreducible] Run CondV aq aK
theorem Inv.swapItem (h:Inv w0 X L S w) {i:Nat} {a b:Item} (hi:L[i]?=some a) (hf:b.foot=a.foot) (hb:b.holds w):Inv w0 X (L.set i b) S w:=by
 have hl:=(fu.1 hi).1
 have hfe:bu (L.set i b)=bu L:=by
  have e:L.map Item.foot=(L.set i b).map Item.foot:=by
   rw [List.map_set,hf]
   apply tk
   intro j
   rw [yb]
   split
   ·rename_i e
    subst e
    rw [ai (by simpa using hl),List.getElem?_map,hi]
    rfl
   ·rfl
  unfold bu
  rw [List.flatMap_def,List.flatMap_def]
  congr 1
  rw [List.map_set]
  apply tk
  intro j
  rw [yb]
  split
  ·rename_i e
   subst e
   rw [ai (by simpa using hl),List.getElem?_map,hi]
   simp [hf]
  ·rfl
 refine ⟨h.size,h.os,h.tape,h.output,h.old,fun it hit=>?_,by rw [hfe]; exact h.nd,by rw [hfe]; exact h.new,by rw [hfe]; exact h.pub⟩
 rcases Jc hit with hit|rfl
 ·exact h.its it hit
 ·exact hb
theorem Inv.rowSlice' (h:Inv w0 X L S w) {i k n:Nat} {e:TypeId} {v:Value} {xs:List Value} (hi:L[i]?=some (.row v e k n xs)):∃ a cap,v=.slice a n cap/\n<=cap:=by
 have hm:w.ownsRow 0 e k v n xs:=h.its (.row v e k n xs) (du hi)
 rcases hm.2 with ⟨rfl,hn⟩|⟨g,cap,cur,rfl,_,_,hn,_⟩
 ·exact ⟨_,_,by rw [hn],by omega⟩
 ·exact ⟨_,_,rfl,hn⟩
theorem Inv.cutRow (h:Inv w0 X L S w) {i k:Nat} {e:TypeId} {v:Value} {css:List (List Value)} (hi:L[i]?=some (aE v e k css)) {n:Nat} (hn:n<=css.length) (hk:∀ cs∈css,cs.length=k):Inv w0 X (L.set i (aE (QV v n) e k (css.take n))) S w:=by
 have hm:w.ownsRow 0 e k v css.length css.flatten:=h.its _ (du hi)
 refine h.swapItem hi ?_ ?_
 ·obtain ⟨a,cap,rfl,_⟩:=h.rowSlice' hi
  cases a <;> rfl
 ·show w.ownsRow 0 e k (QV v n) (css.take n).length (css.take n).flatten
  have hl:(css.take n).length=n:=by rw [dN]; omega
  refine ⟨pm fun cs hc=>hk cs (List.mem_of_mem_take hc),?_⟩
  rcases hm.2 with ⟨rfl,h0⟩|⟨g,cap,cur,rfl,h1,h2,h3,h4,h5,h6⟩
  ·left
   have:n=0:=by omega
   subst this
   exact ⟨rfl,by simp⟩
  ·right
   refine ⟨g,cap,cur,by rw [hl]; rfl,h1,h2,by omega,h4,h5,?_⟩
   rw [hl,<- u0 css n hk,<- h6,sF,qN (iy k hn)]
theorem Ky (h:Inv w0 X L S w) (i:Nat) {T ty e:TypeId} {k n m:Nat} {v:Value} {xs:List Value} (hi:L[i]?=some (.row v e k m xs)) (hT:cB P T=some (e,k)) (hn:n<=m) (hk:K (QV v n) w) :
  Run P (sOp (.slice T (.const v) none (some (.const (.int .i64 n))) none) ty) w K:=by
 obtain ⟨a,cap,rfl,hc⟩:=h.rowSlice' hi
 refine Gs hT (by omega) ?_
 cases a with
 | none=>split <;> exact hk
 | some a=>
  split
  ·exact hk
  ·obtain ⟨b,o,p⟩:=a
   have hm:w.ownsRow 0 e k (.slice (some ⟨b,o,p⟩) m cap) m xs:=h.its _ (du hi)
   rcases hm.2 with ⟨h0,_⟩|⟨g,cap',cur,h0,_⟩
   ·cases h0
   ·cases h0
    simpa [kL,QV] using hk
theorem Inv.rowPtr (h:Inv w0 X L S w) {i k:Nat} {e:TypeId} {v:Value} {css:List (List Value)} (hi:L[i]?=some (aE v e k css)) {j:Nat} (hj:j<css.length) (hk:∀ cs∈css,cs.length=k) :
  ∃ g cap,v=.slice (some ⟨g,0,none⟩) css.length cap/\(∀ f u,css[j][f]?=some u->w.cell? ⟨g,j * k+f,none⟩=some u):=by
 have hm:w.ownsRow 0 e k v css.length css.flatten:=h.its _ (du hi)
 rcases hm.2 with ⟨_,h0⟩|⟨g,cap,cur,rfl,h1,h2,h3,h4,h5,h6⟩
 ·omega
 ·refine ⟨g,cap,rfl,fun f u hf=>?_⟩
  rw [cell_of_row w g (j * k+f) cur e (0,0) h2]
  have hfl:=iC k css j hk hj
  have hfk:f<k:=by have:=(fu.1 hf).1; have:=hk _ (bQ hj); omega
  rw [<- hfl,tx,ai hfk,uD,<- h6,tx] at hf
  split at hf
  ·simpa using hf
  ·cases hf
theorem Cf (h:Inv w0 X L S w) {T ty e:TypeId} (i:Nat) {g cap k j f a:Nat} {css:List (List Value)} {x:Value} (hi:L[i]?=some (aE (.slice (some ⟨g,0,none⟩) css.length cap) e k css)) (hT:iq P T=true) (hj:j<css.length) (hf:f<k) (ha:a=j * k+f)
  (hkl:∀ cs∈css,cs.length=k) (hx:x.cells=#[x]) (h1:x.oneCell'=true)
  (hk:∀ w',Inv w0 X (L.set i (aE (.slice (some ⟨g,0,none⟩) css.length cap) e k (css.set j (css[j].set f x)))) S w'->K undef w') :
  Run P (sOp (.store T (.const (.pointer (some ⟨g,a,none⟩))) (.const x)) ty) w K:=by
 subst ha
 have hil:=(fu.1 hi).1
 have hie:=(fu.1 hi).2
 have hp:List.Perm L ((L.take i++L.drop (i+1))++[aE (.slice (some ⟨g,0,none⟩) css.length cap) e k css]):=by
  conv=>lhs; rw [<- Hd i L,di hil,hie]
  rw [eI]
  exact uI _ (co (l₁:=[_]))
 have hI:=h.perm hp.symm
 obtain ⟨_,ho⟩:=Inv.openRow hI
 rcases ho with ⟨h0,_⟩|⟨g',cap',cur,h0,hnc,hcm,hcs,ht,hI⟩
 ·cases h0
 cases h0
 have hlt:j * k+f<css.length * k:=by
  have:(j+1) * k<=css.length * k:=iy k hj
  rw [jc] at this
  omega
 have hcap:css.length * k<=cap * k:=iy k hnc
 refine df hI (L.take i++L.drop (i+1)).length (n:=1) (by rw [hx]; rfl) (by rw [hT]; rfl) (by rw [gP (aM _),dY]; rfl) (by omega) (by rw [hx]; simpa using h1) fun w' hI=>hk w' ?_
 rw [List.set_append_right _ _ (aM _),dY] at hI
 have hI:Inv w0 X ((L.take i++L.drop (i+1))++[.blk g (.cells (bR cur (j * k+f) x.cells.toList) e)]) S w':=hI
 rw [show x.cells.toList=[x] by rw [hx]] at hI
 have hI:=Inv.closeRow (n:=css.length) (cap:=cap) (k:=k) hI hnc hcm (by rw [lU _ _ _ (by simp; omega)]; exact hcs)
 rw [GF _ _ _ (by omega),List.take_set,ht,yG css j hkl hj hf] at hI
 refine hI.perm ?_
 rw [AH,ai hil,eI]
 refine uI _ ?_
 rw [show Item.row (.slice (some ⟨g,0,none⟩) css.length cap) e k css.length (css.set j (css[j].set f x)).flatten=aE (.slice (some ⟨g,0,none⟩) css.length cap) e k (css.set j (css[j].set f x)) by simp [aE]]
 exact (co (l₁:=[_]))
end
end
section
open Go Go.RowKit
abbrev dt (sb:Nat) (pv qv:Value) (nc:Bool) (fuel used fresh:Int) (gv cv nv:Value) (mo:Int):Array Value:=
 #[.pointer (some ⟨sb,0,none⟩),pv,qv,.bool false,.bool nc,.int .i64 fuel,.int .i64 used,.int .i64 fresh,gv,cv,nv,.int .i64 mo]
abbrev eJ (sp:Nat) (c:Array Value):Item:=.blk sp (.cells c mY)
abbrev chI (cv:Value) (ccs:List (List Value)):Item:=aE cv dB 9 ccs
abbrev noI (nv:Value) (ncs:List (List Value)):Item:=aE nv jw 6 ncs
abbrev hZ (a:Option Addr) (cap n l:Nat):Value:=.slice (if cap=l then a else a.map (·.add (l * 1))) (n - l) (cap - l)
abbrev chC (a0 a1 a2 a3:Value) (at_:Int) (gp:Option Addr) (lv:Value) (m n:Int):List Value:=[a0,a1,a2,a3,.int .i64 at_,.pointer gp,lv,.int .i64 m,.int .i64 n]
theorem P3 {a0 a1 a2 a3:Value} (h:∀ u∈[a0,a1,a2,a3],u.oneCell'=true) {at_:Int} {gp:Option Addr} {a:Option Addr} {c l n0:Nat} {m n:Int}:∀ u∈chC a0 a1 a2 a3 at_ gp (hZ a c l n0) m n,u.oneCell'=true:=by
 intro u hu
 simp only [cQ,ji,jg] at hu
 rcases hu with rfl|rfl|rfl|rfl|rfl|rfl|rfl|rfl|rfl <;> first|rfl|exact h _ (by simp)
def RdCI (S:ad) (cs:List Value) (x:CI × Nat):Prop:=∃ a0 a1 a2 a3 gp lv,cs=[a0,a1,a2,a3,.int .i64 x.1.node,gp,lv,.int .i64 (x.2:Int),.int .i64 (x.1.taken:Int)]/\RdT S [a0,a1,a2,a3] x.1.goal/\GL S gp x.1.rest/\RdSl S 1 l4 lv x.1.left
def RdNI (S:ad) (cs:List Value) (x:NI):Prop:=∃ a0 a1 a2 a3,cs=[a0,a1,a2,a3,.int .i64 x.up,.int .i64 x.clause]/\RdT S [a0,a1,a2,a3] x.goal
theorem RdCI.mono {S S':ad} (hs:Sle S S') {cs:List Value} {x:CI × Nat} (h:RdCI S cs x):RdCI S' cs x:=by
 obtain ⟨a0,a1,a2,a3,gp,lv,rfl,h1,h2,h3⟩:=h
 exact ⟨_,_,_,_,_,_,rfl,h1.mono hs,h2.mono hs,h3.mono hs fun _ _ h=>h⟩
theorem RdNI.mono {S S':ad} (hs:Sle S S') {cs:List Value} {x:NI} (h:RdNI S cs x):RdNI S' cs x:=by
 obtain ⟨a0,a1,a2,a3,rfl,h1⟩:=h
 exact ⟨_,_,_,_,rfl,h1.mono hs⟩
theorem KnownM.upS {S S':ad} {es:Array MapEntry} {st:aj} (h:KnownM S es st) (hs:Sle S S'):KnownM S' es st:=
 ⟨fun e he=>by
  obtain ⟨n,t,cs,a,b,c,d⟩:=h.1 e he
  exact ⟨n,t,cs,a,b,c.mono hs,d⟩,h.2⟩
structure SeaK (S:ad) (chs:List CI) (nodes:List NI) (st:aj) (ms:List Nat) (tr:List Int) (es:Array MapEntry) (ccs ncs:List (List Value)):Prop where
 km:KnownM S es st
 ch:Rows 9 (RdCI S) ccs (chs.zip ms)
 nd:Rows 6 (RdNI S) ncs nodes
 mkI:MkI chs ms st tr
 tb:tr.length+unb st<=st.length
theorem SeaK.mono {S S':ad} {chs:List CI} {nodes:List NI} {st:aj} {ms:List Nat} {tr:List Int} {es:Array MapEntry} {ccs ncs:List (List Value)} (h:SeaK S chs nodes st ms tr es ccs ncs) (hs:Sle S S'):SeaK S' chs nodes st ms tr es ccs ncs:=
 ⟨h.km.upS hs,h.ch.monoR fun _ _=>RdCI.mono hs,h.nd.monoR fun _ _=>RdNI.mono hs,h.mkI,h.tb⟩
theorem KnownM.g26 {S:ad} {es:Array MapEntry} {st:aj} (h:KnownM S es st):KnownM S es (g26 st):=by
 obtain ⟨h1,h2,h3⟩:=h
 refine ⟨fun e he=>?_,fun n t hn=>?_,h3⟩
 ·obtain ⟨n,t,cs,a,b,c,d⟩:=h1 e he
  have hlt:n<st.length:=(fu.1 d).1
  exact ⟨n,t,cs,a,b,c,by unfold Go.Proofs.YtcpgagfdeflbkaaGreatDoor.g26; rw [vo hlt]; exact d⟩
 ·unfold Go.Proofs.YtcpgagfdeflbkaaGreatDoor.g26 at hn
  by_cases hlt:n<st.length
  ·rw [vo hlt] at hn
   exact h2 n t hn
  ·rw [gP (by omega),OB] at hn
   split at hn <;> simp at hn
section
variable {P:Program} {w:World} {K:Value->World->Prop}
attribute [local irreducible] Run
theorem Tv {cs:List Bool} {a b:Int} (hk:K (.int .i64 (if a<b then b else a)) w):Run Tryz.prog (bH .max #[b0,b0] b0 cs [.int .i64 a,.int .i64 b]) w K:=by
 refine Run.of ?_ hk
 simp [bH,builtin,Builtin.max_,Builtin.max2]
end
section
variable {P:Program} {w w0:World} {X:List Nat} {L:List Item} {S:ad} {K:Value->World->Prop}
attribute [local irreducible] Run CondV aq aK
theorem iI (h:Inv w0 X L S w) (i:Nat) {T ty e:TypeId} {cs:List Bool} {k n:Nat} {v:Value} {xs:List Value} {Ek:TypeId × Nat} (hi:L[i]?=some (.row v e k n xs)) (hu:cB P T=some Ek) (hk:K (.int .i64 (n:Int)) w) :
  Run P (bH .len #[T] ty cs [v]) w K:=by
 have hm:w.ownsRow 0 e k v n xs:=h.its (.row v e k n xs) (du hi)
 rcases hm.2 with ⟨rfl,hn⟩|⟨g,cap,cur,rfl,_⟩
 ·subst hn
  exact gL hu hk
 ·exact gL hu hk
end
def FD (sp sb mb:Nat) (pv qv:Value) (nc:Bool) (fuel used:Int) (gv0:Value) (chs:List CI) (nodes:List NI) (st:aj) (tr:List Int) (ms:List Nat) (g:T) (at_:Int) (rest:List GI) (o:Option HI) (n:Nat):Value->List Item->ad->Prop:=fun q I' S'=>
 q=.bool o.isSome/\∃ es' ck' tv' tr' ms' gv' cv' ccs' nv' ncs' mo',I'=[eJ sp (dt sb pv qv nc fuel used n gv' cv' nv' mo'),chI cv' ccs',noI nv' ncs']++au sb mb es' ck' tv' tr'/\
  match o with
  | none=>gv'=gv0/\tr'=tr/\ms'=ms/\SeaK S' chs nodes (bU st n) ms tr es' ccs' ncs'
  | some r=>GL S' gv' (jL chs nodes g at_ rest st r).goals/\SeaK S' (jL chs nodes g at_ rest st r).chs (jL chs nodes g at_ rest st r).nodes r.st ms' tr' es' ccs' ncs'
theorem TryI.inv {p:List C} {g:T} {x:Int} {l:List Int} {st:aj} {o:Option HI} {n:Nat} (h:TryI p g (x::l) st o n):∃ (i:Nat) (cl:C) (r:Bool) (st':aj),x=i/\p[i]?=some cl/\Uni (g26 st) (.one g (dl st.length cl.head)) r st'/\
  ((r=true/\o=some ⟨i,cl,st.length,l,st'⟩/\n=st.length+26) ∨ (r=false/\TryI p g l (g26 st) o n)):=by
 cases h with
 | hit h1 h2=>exact ⟨_,_,_,_,rfl,h1,h2,.inl ⟨rfl,rfl,rfl⟩⟩
 | miss h1 h2 h3=>exact ⟨_,_,_,_,rfl,h1,h2,.inr ⟨rfl,h3⟩⟩
theorem O7 (ns:List NI) (a:Nat) (i:Int) (h:a<ns.length):Fr ns a i=ns.set a ⟨ns[a].goal,ns[a].up,i⟩:=by
 unfold Fr
 apply tk
 intro j
 rw [List.getElem?_modify,yb]
 split
 ·rename_i e
  subst e
  rw [iR h]
  rfl
 ·cases ns[j]? <;> rfl
theorem DU {t:T} (h:okU 26 t):okV t:=Fa t h
section
attribute [local irreducible] Run CondV aq aK
set_option maxHeartbeats 2000000 in
theorem Ep {p:List C} (hp:∀ cl∈p,o7 cl) (hpb:∀ cl∈p,cl.body.length<=1048576) {g:T} {l:List Int} {st:aj} {o:Option HI} {n:Nat} (ht:TryI p g l st o n) (hgd:Good st.length st) (htb:tabM st) (hgo:(okU st.length g/\wT g<=1048576)/\okM g)
  (hn:st.length+26 * l.length<=900000) {S:ad} {gcs:List Value} {lv gv gv0 pv qv cv nv tv:Value} {rest:List GI} {chs:List CI} {nodes:List NI} {ms:List Nat} {tr:List Int} {es:Array MapEntry} {ccs ncs:List (List Value)}
  {sp sb mb ck:Nat} {nc:Bool} {fuel used at_ mo:Int} (h1:RdT S gcs g) (h2:RdSl S 1 l4 lv l) (h3:GL S gv rest) (h4:RdSl S 5 (RdC S) pv p) (hK:SeaK S chs nodes st ms tr es ccs ncs) (hat:0<=at_/\at_<nodes.length) (hcl:chs.length<=1000000) :
  Tri Tryz.prog A5 [.pointer (some ⟨sp,0,none⟩),.agg gcs.toArray,.int .i64 at_,lv,gv] ([eJ sp (dt sb pv qv nc fuel used st.length gv0 cv nv mo),chI cv ccs,noI nv ncs]++au sb mb es ck tv tr) S
   (FD sp sb mb pv qv nc fuel used gv0 chs nodes st tr ms g at_ rest o n):=by
 intro w hI
 obtain ⟨X,hX⟩:∃ X,X=bu ([eJ sp (dt sb pv qv nc fuel used st.length gv0 cv nv mo),chI cv ccs,noI nv ncs]++au sb mb es ck tv tr):=⟨_,rfl⟩
 rw [<- hX] at hI ⊢
 have hl4:=h1.length
 have htrl:tr.length<=900000:=by have:=hK.tb; omega
 refine oA.2 ?_
 dsimp only[oA,EC]
 refine bp hI fun b6 w' hI=>?_
 have hI:Inv w X ([.blk b6 (.cells gcs.toArray ab),eJ sp (dt sb pv qv nc fuel used st.length gv0 cv nv mo),chI cv ccs,noI nv ncs]++au sb mb es ck tv tr) S w':=hI.perm (co (l₁:=[_]))
 refine ar ?_
 refine ae hI 1 rfl fb eE rfl ?_
 refine ar ?_
 refine ae hI 4 rfl eO gW rfl ?_
 refine iI hI 6 rfl dD ?_
 refine aF h2 dD ?_
 have hh2:=h2.le
 simp only [maxLen] at hh2
 refine ⟨fun i w'=>∃ (k:Nat) (st1:aj) (es1:Array MapEntry) (ck1:Nat) (tv1:Value) (S1:ad),k<=l.length/\i=.int .i64 (k:Int)/\TryI p g (l.drop k) st1 o n/\st1=bU st st1.length/\st1.length=st.length+26 * k/\Ext w.heap.size X S S1/\KnownM S1 es1 st1/\
   Inv w X ([.blk b6 (.cells gcs.toArray ab),eJ sp (dt sb pv qv nc fuel used st1.length gv0 cv nv mo),chI cv ccs,noI nv ncs]++au sb mb es1 ck1 tv1 tr) S1 w',
  fun i _=>l.length - (intOf i).toNat,⟨0,st,es,ck,tv,S,aR _,rfl,ht,(lw st).symm,rfl,Ext.refl _ _ _,hK.km,hI⟩,?_⟩
 clear hI
 intro t30 _ _ t151 t150 t149 t148 t147 t146 t145 t144 t143 t142 t141 t140 t139 _ _ _ _ _ _ _ _ _ _ _ _ _ _ _ _ _ _ _ _ _ _ _ _ _ _ _ _ _ _ _ _ _ _ _ _ _ _ t102 t101 t100 t99 t98 t97 t96 t95 t94 t93 t92 t91 t90 t89 t88 t87 t86 t85 t84 t83 t82 t81 t80 _ _ _ _ _ _ _ _ _ _ _ _ _ _ _ _ _ t63 t62 t61 t60 t59 t58 t57 t56 t55 t54 t53 t52 t51 t50 t49 t48 t47 _ _ _ _ _ _ _ _ _ _ _ _ _ _ _ _ _ _ _ _ w'
 rintro ⟨k,st1,es1,ck1,tv1,S1,hk,rfl,ht1,hst1,hlen1,hE1,hkm1,hI⟩
 refine bL ?_
 refine aH (fun hki=>?_) (fun hki=>?_)
 ·have hk':k<l.length:=by omega
  rw [di hk'] at ht1
  obtain ⟨i,cl,r,st2,hxi,hpi,hu,hcase⟩:=ht1.inv
  have hip:i<p.length:=(fu.1 hpi).1
  have hcp:p[i]=cl:=(fu.1 hpi).2
  have hcl1:=hp cl (du hpi)
  have hs1:st.length<=st1.length:=by omega
  have hg1:Good st1.length st1:=by have h:=hgd.to hs1; rwa [<- hst1] at h
  have ht1b:tabM st1:=by have h:=htb.to st1.length; rwa [<- hst1] at h
  have hgo1:(okU st1.length g/\wT g<=1048576)/\okM g:=⟨⟨gC hs1 _ hgo.1.1,hgo.1.2⟩,hgo.2⟩
  have hjj:=O9 hgo1.1 hcl1
  have hfr:st1.length<=900000:=by omega
  have hun1:unb st1+tr.length<=st1.length:=by
   have:=hK.tb
   rw [hst1,dI hs1]
   unfold bU
   rw [nP]
   omega
  have hun26:tr.length+unb (g26 st1)<=1000000:=by unfold g26; rw [nP]; omega
  refine hY hI (h2.mono hE1.1 fun _ _ h=>h) dD aI hk' (fun cs hcs=>hcs) ?_
  rw [hxi]
  refine ar ?_
  refine ae hI 1 rfl nO aI rfl ?_
  refine aP hI OH fun b14 w' hI=>?_
  refine df hI 7 (n:=1) rfl (by rw [aI]; rfl) rfl (jS rfl) (by simp [Value.cells]; rfl) fun w' hI=>?_
  have hI:Inv w X (([.blk b6 (.cells gcs.toArray ab),eJ sp (dt sb pv qv nc fuel used st1.length gv0 cv nv mo),chI cv ccs,noI nv ncs]++au sb mb es1 ck1 tv1 tr)++[.blk b14 (.cells #[.int .i64 (st1.length:Int)] b0)]) S1 w':=hI
  obtain ⟨S2,hI,hE2,hb14⟩:=Inv.pub1 hI
  refine ar ?_
  refine ae hI 1 rfl nO aI rfl ?_
  refine bn (by omega) ?_
  refine ar ?_
  refine cT hI 1 rfl nO aI rfl rfl rfl fun w' hI=>?_
  refine nT ?_
  have hE12:=hE1.trans hE2
  obtain ⟨pb,po,pcap,pc,pE,pfz,hpv,hSp,hRc⟩:=h4.at_ hip
  rw [hcp] at hRc
  obtain ⟨hd,kb,hce,hhd,hbd⟩:=hRc
  have hhl:=hhd.length
  have hfun:=Nf (S:=S2) (by_:=(st1.length:Int)) hb14 (by omega)
  have hfr26:((st1.length:Int)+26)=((g26 st1).length:Int):=by rw [n6]; omega
  have hJ0:Inv w X ([.blk b6 (.cells gcs.toArray ab),eJ sp (dt sb pv qv nc fuel used ((g26 st1).length:Int) gv0 cv nv mo),chI cv ccs,noI nv ncs]++au sb mb es1 ck1 tv1 tr) S2 w':=by rw [<- hfr26]; exact hI
  repeat clear hI
  refine ⟨fun D ET CE BK zR Bq Ct B5 BI Eo EV DO Eh DN D6 CD Bn Af w_=>Fx D 0 [Af=.pointer (some ⟨sp,0,none⟩),Bn=.pointer (some ⟨sp,0,none⟩),CD=.pointer (some ⟨sp,0,none⟩),D6=.pointer (some ⟨sb,0,none⟩),DN=.agg gcs.toArray,Eh=.pointer (some ⟨sp,0,none⟩),DO=.pointer (some ⟨sp,0,none⟩),EV=.pointer (some ⟨sp,1,none⟩),Eo=.slice (some ⟨pb,po,none⟩) p.length pcap,BI=.int .i64 (i:Int),B5=.pointer (some ⟨pb,po+i * 5,none⟩),Ct=.pointer (some ⟨pb,po+i * 5,none⟩),Bq=.agg hd.toArray,zR=.func (.func mN) #[] #[.pointer (some ⟨b14,0,none⟩)],True,CE=.bool r,ET=.bool (!r)]/\∃ (SN:ad) (es3:Array MapEntry) (ck3:Nat) (tv3:Value) (tr3:List Int),Ext w.heap.size X S2 SN/\(D 14=true->∃ cs,BK=.agg cs.toArray/\RdT SN cs (dl st1.length cl.head))/\(D 15=false->es1=es3/\ck1=ck3/\tv1=tv3/\tr=tr3)/\(D 15=true->KnownM SN es3 st2/\Tr (g26 st1) st2 tr tr3)/\Inv w X ([.blk b6 (.cells gcs.toArray ab),eJ sp (dt sb pv qv nc fuel used ((g26 st1).length:Int) gv0 cv nv mo),chI cv ccs,noI nv ncs]++au sb mb es3 ck3 tv3 tr3) SN w_,⟨Fx.nil _ _,⟨S2,es1,ck1,tv1,tr,Ext.refl _ _ _,aQ,fun _=>⟨rfl,rfl,rfl,rfl⟩,aQ,hJ0.draw⟩⟩,⟨?_,?_,?_,?_,?_,?_,?_,?_,?_,?_,?_,?_,?_,?_,?_,?_,?_,trivial⟩,?_⟩
  all_goals (intro D bI; intros; rename_i ET CE BK zR Bq Ct B5 BI Eo EV DO Eh DN D6 CD Bn Af w_ hA_; have hF_:=hA_.1; obtain ⟨⟨cJ,cH,cK,cI,cN,cP,cz,dC,ek,fZ,dr,dM,fj,gN,ic,i9,kF,_⟩,⟨SN,es3,ck3,tv3,tr3,hN,e14,k15,e15,hI⟩⟩:=hA_)
  ·exact ⟨hF_.set 0 rfl,⟨SN,es3,ck3,tv3,tr3,hN,e14,k15,e15,hI⟩⟩
  ·obtain rfl:=cJ ‹_›
   refine ar ?_
   exact ⟨hF_.set 1 rfl,⟨SN,es3,ck3,tv3,tr3,hN,e14,k15,e15,hI⟩⟩
  ·obtain rfl:=cH ‹_›
   refine aC fb ?_
   exact ⟨hF_.set 2 rfl,⟨SN,es3,ck3,tv3,tr3,hN,e14,k15,e15,hI⟩⟩
  ·obtain rfl:=cK ‹_›
   refine bb (b:=sp) hI 1 (c:=dt sb pv qv nc fuel used ((g26 st1).length:Int) gv0 cv nv mo) eE rfl rfl ?_
   exact ⟨hF_.set 3 rfl,⟨SN,es3,ck3,tv3,tr3,hN,e14,k15,e15,hI⟩⟩
  ·refine az hI 0 ac rfl (by simpa using hl4) ?_
   exact ⟨hF_.set 4 rfl,⟨SN,es3,ck3,tv3,tr3,hN,e14,k15,e15,hI⟩⟩
  ·exact ⟨hF_.set 5 rfl,⟨SN,es3,ck3,tv3,tr3,hN,e14,k15,e15,hI⟩⟩
  ·obtain rfl:=cP ‹_›
   refine ar ?_
   exact ⟨hF_.set 6 rfl,⟨SN,es3,ck3,tv3,tr3,hN,e14,k15,e15,hI⟩⟩
  ·obtain rfl:=cz ‹_›
   refine aC nG ?_
   exact ⟨hF_.set 7 rfl,⟨SN,es3,ck3,tv3,tr3,hN,e14,k15,e15,hI⟩⟩
  ·obtain rfl:=dC ‹_›
   refine bb (b:=sp) hI 1 (c:=dt sb pv qv nc fuel used ((g26 st1).length:Int) gv0 cv nv mo) pN rfl (by rw [hpv]; rfl) ?_
   exact ⟨hF_.set 8 rfl,⟨SN,es3,ck3,tv3,tr3,hN,e14,k15,e15,hI⟩⟩
  ·exact ⟨hF_.set 9 rfl,⟨SN,es3,ck3,tv3,tr3,hN,e14,k15,e15,hI⟩⟩
  ·obtain rfl:=ek ‹_›
   obtain rfl:=fZ ‹_›
   refine aD bi hip ?_
   exact ⟨hF_.set 10 rfl,⟨SN,es3,ck3,tv3,tr3,hN,e14,k15,e15,hI⟩⟩
  ·obtain rfl:=dr ‹_›
   refine aC bZ ?_
   exact ⟨hF_.set 11 rfl,⟨SN,es3,ck3,tv3,tr3,hN,e14,k15,e15,hI⟩⟩
  ·obtain rfl:=dM ‹_›
   refine cm (cs:=hd) ac hhl (fun j v hj=>by rw [hI.cellS ((hE12.trans hN).1 _ _ hSp)]; exact aL hce j v (by rw [vo (fu.1 hj).1]; exact hj)) ?_
   exact ⟨hF_.set 12 rfl,⟨SN,es3,ck3,tv3,tr3,hN,e14,k15,e15,hI⟩⟩
  ·exact ⟨hF_.set 13 rfl,⟨SN,es3,ck3,tv3,tr3,hN,e14,k15,e15,hI⟩⟩
  ·obtain rfl:=fj ‹_›
   obtain rfl:=gN ‹_›
   refine Run.call0E gO gU hI (Bb [.pointer (some ⟨b14,0,none⟩)] _ kZ kJ cl.head SN hd (hhd.mono (hE12.trans hN).1) (DU hcl1.head.1.1) hcl1.head.1.2 (hfun.mono hN.1)) fun v' I' S4 w_=>?_
   rintro ⟨rfl,cs7,rfl,hT⟩ hE4 hI
   rw [pM st1.length cl.head hcl1.head.1.1] at hT
   have hI:=hI.sub (dn _ _)
   have hN:=hN.trans hE4
   have e14:aB D 14 14=true->∃ cs,Value.agg cs7.toArray=.agg cs.toArray/\RdT S4 cs (dl st1.length cl.head):=fun _=>⟨cs7,rfl,hT⟩
   have e15:aB D 14 15=true->KnownM S4 es3 st2/\Tr (g26 st1) st2 tr tr3:=fun h=>⟨(e15 h).1.upS hE4.1,(e15 h).2⟩
   obtain ⟨SN,hSN⟩:∃ a,a=S4:=⟨_,rfl⟩
   subst hSN
   exact ⟨hF_.set 14 (by first|assumption|trivial),⟨SN,es3,ck3,tv3,tr3,hN,e14,k15,e15,hI⟩⟩
  ·obtain rfl:=cI ‹_›
   obtain rfl:=cN ‹_›
   have Us:=ic ‹_›
   obtain ⟨rfl,rfl,rfl,rfl⟩:=k15 bI
   obtain ⟨cs7,rfl,hT7⟩:=e14 ‹D 14=true›
   refine Run.callE (A:=[_,_,_,_]) dT dQ hI (gr (by omega) hg1.g26 hjj hu SN _ _ sb mb ck1 es1 tv1 tr (h1.mono (hE12.trans hN).1) hT7 ((hkm1.upS (hE2.trans hN).1).g26) hun26) fun v' I' S4 w_=>?_
   rintro ⟨eS,rfl,es3,ck3,tv3,tr3,rfl,hm3,_,hT3⟩ _ hI
   rw [eS] at hI
   have k15:aB D 15 15=false->es1=es3/\ck1=ck3/\tv1=tv3/\tr=tr3:=fun h=>Bool.noConfusion h
   have e15:aB D 15 15=true->KnownM SN es3 st2/\Tr (g26 st1) st2 tr tr3:=fun _=>⟨hm3,hT3⟩
   have e14:aB D 15 14=true->∃ cs,Value.agg cs7.toArray=.agg cs.toArray/\RdT SN cs (dl st1.length cl.head):=fun _=>⟨cs7,rfl,hT7⟩
   exact ⟨hF_.set 15 rfl,⟨SN,es3,ck3,tv3,tr3,hN,e14,k15,e15,hI⟩⟩
  ·obtain rfl:=i9 ‹_›
   refine ct ?_
   exact ⟨hF_.set 16 rfl,⟨SN,es3,ck3,tv3,tr3,hN,e14,k15,e15,hI⟩⟩
  obtain ⟨rfl,rfl,rfl,rfl,rfl,rfl,rfl,rfl,rfl,rfl,rfl,rfl,rfl,rfl,Us,rfl,rfl,_⟩:=hF_.all
  clear hF_ cJ cH cK cI cN cP cz dC ek fZ dr dM fj gN ic i9 kF
  obtain ⟨hkm3,hTr3⟩:=e15 (by assumption)
  clear k15 e14 e15
  have hE13:=hE12.trans hN
  rcases hcase with ⟨rfl,ho,hn1⟩|⟨rfl,ht2⟩
  ·refine aw (fun hb=>by cases hb) (fun _=>?_)
   subst ho hn1
   obtain ⟨an,rfl⟩:∃ an:Nat,at_=an:=⟨at_.toNat,by omega⟩
   have han:an<nodes.length:=by omega
   obtain ⟨a0,a1,a2,a3,rfl⟩:=h1.four
   obtain ⟨gp,rfl⟩:=h3.ptr
   have hml:=hK.mkI.len
   have hcc:ccs.length=chs.length:=by have:=hK.ch.hc; rw [MI] at this; omega
   have hnc:=hK.nd.hc
   have hTG:TrG st st2 tr tr3:=by
    refine (TrG.grow st tr hs1).trans ?_
    rw [<- hst1]
    refine (TrG.grow st1 tr (qJ _ 26)).trans ?_
    rw [<- K0]
    exact TrG.of hTr3
   have hst2:st2.length=st1.length+26:=by
    obtain ⟨ns,_,hu2,_⟩:=hTr3
    have:=congrArg List.length hu2
    rw [l5,n6] at this
    exact this
   obtain ⟨la,lcap,rfl,hlc1,hlc2,hlx⟩:=id h2
   have hL2:=h2.from (l:=k+1) (by omega)
   refine ar ?_
   refine ae hI 1 rfl dp dG rfl ?_
   refine iI hI 2 rfl fJ ?_
   refine ⟨fun w'=>∃ (SJ:ad) (cv':Value) (ccs':List (List Value)) (ms':List Nat),Ext w.heap.size X SN SJ/\Rows 9 (RdCI SJ) ccs' ((chs++(if l.drop (k+1)=[] then [] else ([⟨g,(an:Int),rest,l.drop (k+1),st,nodes.length⟩]:List CI))).zip ms')/\
    MkI (chs++(if l.drop (k+1)=[] then [] else ([⟨g,(an:Int),rest,l.drop (k+1),st,nodes.length⟩]:List CI))) ms' st2 tr3/\
    Inv w X ([.blk b6 (.cells #[a0,a1,a2,a3] ab),eJ sp (dt sb pv qv nc fuel used ((g26 st1).length:Int) gv0 cv' nv mo),chI cv' ccs',noI nv ncs]++au sb mb es3 ck3 tv3 tr3) SJ w',?_,?_⟩
   ·refine bn (by omega) ?_
    refine aF h2 dD ?_
    refine bL ?_
    refine aH (fun hk2=>?_) (fun hk2=>?_)
    ·have hne:l.drop (k+1)≠[]:=fun e=>by have:=congrArg List.length e; rw [xS,bG] at this; omega
     rw [af hne]
     have hJ1:=hI
     clear hI
     have hN0:=hN
     clear hN
     refine ⟨fun D Sv Si RL Ux UC Tx Sq Rj Rf Rn Rq Q6 Rh Rc Q1 Rm QY QX Q8 Ok Q4 N4 O2 w_=>Fx D 0 [O2=.pointer (some ⟨sp,0,none⟩),N4=.pointer (some ⟨sp,0,none⟩),Q4=.pointer (some ⟨sp,0,none⟩),Ok=.pointer (some ⟨sp,9,none⟩),Q8=cv,QX=.agg #[a0,a1,a2,a3],QY=.int .i64 (an:Int),Rm=.pointer gp,Q1=.slice la l.length lcap,Rc=.int .i64 (k:Int),Rh=.int .i64 ((k+1:Nat):Int),Q6=hZ la lcap l.length (k+1),Rq=.int .i64 (tr.length:Int),Rn=.pointer (some ⟨sp,0,none⟩),Rf=.pointer (some ⟨sp,0,none⟩),Rj=.pointer (some ⟨sp,10,none⟩),Sq=nv,Tx=.int .i64 (ncs.length:Int),UC=.agg (chC a0 a1 a2 a3 an gp (hZ la lcap l.length (k+1)) tr.length ncs.length).toArray,True,True,Si=.pointer (some ⟨sp,0,none⟩),Sv=.pointer (some ⟨sp,9,none⟩),True]/\∃ (SP:ad) (cvF cvR:Value) (ccsR:List (List Value)),Ext w.heap.size X SN SP/\(D 19=true->∃ b,Ux=.slice (some ⟨b,0,none⟩) 1 1/\SP b=some (.cells (chC a0 a1 a2 a3 an gp (hZ la lcap l.length (k+1)) tr.length ncs.length).toArray dB))/\(D 20=false->cv=cvF/\cv=cvR/\ccs=ccsR)/\(D 20=true->cvR=RL/\ccsR=ccs++[chC a0 a1 a2 a3 an gp (hZ la lcap l.length (k+1)) tr.length ncs.length])/\(D 23=true->cvF=RL)/\(D 20=true->D 4=true)/\(D 23=true->D 20=true)/\Inv w X ([.blk b6 (.cells #[a0,a1,a2,a3] ab),eJ sp (dt sb pv qv nc fuel used ((g26 st1).length:Int) gv0 cvF nv mo),chI cvR ccsR,noI nv ncs]++au sb mb es3 ck3 tv3 tr3) SP w_,⟨Fx.nil _ _,⟨SN,cv,cv,ccs,Ext.refl _ _ _,aQ,fun _=>⟨rfl,rfl,rfl⟩,aQ,aQ,aQ,aQ,hJ1.draw⟩⟩,⟨?_,?_,?_,?_,?_,?_,?_,?_,?_,?_,?_,?_,?_,?_,?_,?_,?_,?_,?_,?_,?_,?_,?_,?_,trivial⟩,?_⟩
     all_goals (intro D bI; intros; rename_i Sv Si RL Ux UC Tx Sq Rj Rf Rn Rq Q6 Rh Rc Q1 Rm QY QX Q8 Ok Q4 N4 O2 w_ hA_; have hF_:=hA_.1; obtain ⟨⟨cJ,cH,cK,cI,cN,cP,cz,dC,ek,fZ,dr,dM,fj,gN,ic,i9,kF,n4,rH,iZ,vB,uR,vY,xi,_⟩,⟨SP,cvF,cvR,ccsR,hN,e19,e20f,e20,e23,k20,k23,hI⟩⟩:=hA_)
     ·exact ⟨hF_.set 0 rfl,⟨SP,cvF,cvR,ccsR,hN,e19,e20f,e20,e23,k20,k23,hI⟩⟩
     ·exact ⟨hF_.set 1 rfl,⟨SP,cvF,cvR,ccsR,hN,e19,e20f,e20,e23,k20,k23,hI⟩⟩
     ·obtain rfl:=cH ‹_›
      refine ar ?_
      exact ⟨hF_.set 2 rfl,⟨SP,cvF,cvR,ccsR,hN,e19,e20f,e20,e23,k20,k23,hI⟩⟩
     ·obtain rfl:=cK ‹_›
      refine aC dp ?_
      exact ⟨hF_.set 3 rfl,⟨SP,cvF,cvR,ccsR,hN,e19,e20f,e20,e23,k20,k23,hI⟩⟩
     ·obtain rfl:=cI ‹_›
      have f20:D 20=false:=cq.2 fun h=>by rw [k20 h] at bI; cases bI
      have q:=(e20f f20).1
      refine bb (b:=sp) (v:=cv) hI 1 (c:=dt sb pv qv nc fuel used ((g26 st1).length:Int) gv0 cvF nv mo) dG rfl (by rw [q]; rfl) ?_
      have k20:aB D 4 20=true->aB D 4 4=true:=fun _=>rfl
      exact ⟨hF_.set 4 (by first|assumption|trivial),⟨SP,cvF,cvR,ccsR,hN,e19,e20f,e20,e23,k20,k23,hI⟩⟩
     ·refine az hI 0 ac rfl rfl ?_
      exact ⟨hF_.set 5 rfl,⟨SP,cvF,cvR,ccsR,hN,e19,e20f,e20,e23,k20,k23,hI⟩⟩
     ·exact ⟨hF_.set 6 rfl,⟨SP,cvF,cvR,ccsR,hN,e19,e20f,e20,e23,k20,k23,hI⟩⟩
     ·exact ⟨hF_.set 7 rfl,⟨SP,cvF,cvR,ccsR,hN,e19,e20f,e20,e23,k20,k23,hI⟩⟩
     ·exact ⟨hF_.set 8 rfl,⟨SP,cvF,cvR,ccsR,hN,e19,e20f,e20,e23,k20,k23,hI⟩⟩
     ·exact ⟨hF_.set 9 rfl,⟨SP,cvF,cvR,ccsR,hN,e19,e20f,e20,e23,k20,k23,hI⟩⟩
     ·obtain rfl:=fZ ‹_›
      refine bn (by omega) ?_
      exact ⟨hF_.set 10 rfl,⟨SP,cvF,cvR,ccsR,hN,e19,e20f,e20,e23,k20,k23,hI⟩⟩
     ·obtain rfl:=ek ‹_›
      obtain rfl:=dr ‹_›
      refine IL dD (by omega) ?_
      exact ⟨hF_.set 11 rfl,⟨SP,cvF,cvR,ccsR,hN,e19,e20f,e20,e23,k20,k23,hI⟩⟩
     ·exact ⟨hF_.set 12 rfl,⟨SP,cvF,cvR,ccsR,hN,e19,e20f,e20,e23,k20,k23,hI⟩⟩
     ·exact ⟨hF_.set 13 rfl,⟨SP,cvF,cvR,ccsR,hN,e19,e20f,e20,e23,k20,k23,hI⟩⟩
     ·obtain rfl:=gN ‹_›
      refine ar ?_
      exact ⟨hF_.set 14 rfl,⟨SP,cvF,cvR,ccsR,hN,e19,e20f,e20,e23,k20,k23,hI⟩⟩
     ·obtain rfl:=ic ‹_›
      refine aC eB ?_
      exact ⟨hF_.set 15 rfl,⟨SP,cvF,cvR,ccsR,hN,e19,e20f,e20,e23,k20,k23,hI⟩⟩
     ·obtain rfl:=i9 ‹_›
      refine bb (b:=sp) (v:=nv) hI 1 (c:=dt sb pv qv nc fuel used ((g26 st1).length:Int) gv0 cvF nv mo) iB rfl rfl ?_
      exact ⟨hF_.set 16 (by first|assumption|trivial),⟨SP,cvF,cvR,ccsR,hN,e19,e20f,e20,e23,k20,k23,hI⟩⟩
     ·have TX:=kF ‹_›
      refine iI (e:=jw) (k:=6) (n:=ncs.length) (xs:=ncs.flatten) hI 3 (by rw [TX]; rfl) rp ?_
      exact ⟨hF_.set 17 rfl,⟨SP,cvF,cvR,ccsR,hN,e19,e20f,e20,e23,k20,k23,hI⟩⟩
     ·obtain rfl:=cP ‹_›
      obtain rfl:=cz ‹_›
      obtain rfl:=dC ‹_›
      obtain rfl:=dM ‹_›
      obtain rfl:=fj ‹_›
      obtain rfl:=n4 ‹_›
      refine CY ?_
      exact ⟨hF_.set 18 rfl,⟨SP,cvF,cvR,ccsR,hN,e19,e20f,e20,e23,k20,k23,hI⟩⟩
     ·obtain rfl:=rH ‹_›
      refine d6 hI yR rfl (by omega) (by omega) fun b19 w_ hI=>?_
      have hI:Inv w X (([.blk b6 (.cells #[a0,a1,a2,a3] ab),eJ sp (dt sb pv qv nc fuel used ((g26 st1).length:Int) gv0 cvF nv mo),chI cvR ccsR,noI nv ncs]++au sb mb es3 ck3 tv3 tr3)++[.blk b19 (.cells (chC a0 a1 a2 a3 an gp (hZ la lcap l.length (k+1)) tr.length ncs.length).toArray dB)]) SP w_:=hI
      obtain ⟨SP,hI,hE5,hb19⟩:=Inv.pub1 hI
      have hN:=hN.trans hE5
      have e19:aB D 19 19=true->∃ b,Value.slice (some ⟨b19,0,none⟩) 1 1=.slice (some ⟨b,0,none⟩) 1 1/\SP b=some (.cells (chC a0 a1 a2 a3 an gp (hZ la lcap l.length (k+1)) tr.length ncs.length).toArray dB):=fun _=>⟨b19,rfl,hb19⟩
      exact ⟨hF_.set 19 (by first|assumption|trivial),⟨SP,cvF,cvR,ccsR,hN,e19,e20f,e20,e23,k20,k23,hI⟩⟩
     ·have Ij:=cN ‹_›
      have Uv:=iZ ‹_›
      obtain ⟨b,q19,hb⟩:=e19 ‹D 19=true›
      subst q19
      obtain ⟨q1,rfl,rfl⟩:=e20f bI
      refine dy hI 2 (chC a0 a1 a2 a3 an gp (hZ la lcap l.length (k+1)) tr.length ncs.length) yR (by omega) (n:=ccs.length) (xs:=ccs.flatten) (by rw [Ij]; rfl) rfl (m:=1) (o:=0) (fun j u hj=>by rw [hI.cellS hb,cZ]; simpa using hj) (P3 h1.one) (by omega) (by omega) fun cvR w_ hI=>?_
      obtain ⟨ccsR,hR⟩:∃ a,a=ccs++[chC a0 a1 a2 a3 an gp (hZ la lcap l.length (k+1)) tr.length ncs.length]:=⟨_,rfl⟩
      rw [eK,<- hR] at hI
      have e20f:aB D 20 20=false->cv=cvF/\cv=cvR/\ccs=ccsR:=fun h=>Bool.noConfusion h
      have e20:aB D 20 20=true->cvR=cvR/\ccsR=ccs++[chC a0 a1 a2 a3 an gp (hZ la lcap l.length (k+1)) tr.length ncs.length]:=fun _=>⟨rfl,hR⟩
      have e23:aB D 20 23=true->cvF=cvR:=fun h=>absurd (k23 h) (by rw [bI]; decide)
      have k20:aB D 20 20=true->aB D 20 4=true:=fun _=>‹D 4=true›
      have k23:aB D 20 23=true->aB D 20 20=true:=fun _=>rfl
      have e19:aB D 20 19=true->∃ b',Value.slice (some ⟨b,0,none⟩) 1 1=.slice (some ⟨b',0,none⟩) 1 1/\SP b'=some (.cells (chC a0 a1 a2 a3 an gp (hZ la lcap l.length (k+1)) tr.length ncs.length).toArray dB):=fun _=>⟨b,rfl,hb⟩
      exact ⟨hF_.set 20 (by first|assumption|trivial),⟨SP,cvF,cvR,ccsR,hN,e19,e20f,e20,e23,k20,k23,hI⟩⟩
     ·obtain rfl:=cJ ‹_›
      refine ar ?_
      exact ⟨hF_.set 21 rfl,⟨SP,cvF,cvR,ccsR,hN,e19,e20f,e20,e23,k20,k23,hI⟩⟩
     ·obtain rfl:=uR ‹_›
      refine aC dp ?_
      exact ⟨hF_.set 22 rfl,⟨SP,cvF,cvR,ccsR,hN,e19,e20f,e20,e23,k20,k23,hI⟩⟩
     ·obtain rfl:=vY ‹_›
      have Up:=vB ‹_›
      obtain ⟨q1,q2⟩:=e20 ‹D 20=true›
      subst q1
      obtain ⟨va,vcap,hv,_⟩:=hI.rowSlice' (i:=2) rfl
      have hcl:cvR.cells=#[cvR]:=by rw [hv]; rfl
      refine df hI 1 (n:=1) (by rw [hcl]; rfl) (by rw [dG]; rfl) rfl (jS rfl) (by rw [hcl,hv]; simp [Value.oneCell']) fun w_ hI=>?_
      rw [hcl] at hI
      obtain ⟨cvF,hF⟩:∃ a,a=cvR:=⟨_,rfl⟩
      have e23:aB D 23 23=true->cvF=cvR:=fun _=>hF
      have e20f:aB D 23 20=false->cv=cvF/\cv=cvR/\ccs=ccsR:=fun h=>absurd ‹D 20=true› (by rw [show D 20=false from h]; decide)
      have k23:aB D 23 23=true->aB D 23 20=true:=fun _=>‹D 20=true›
      have hI:Inv w X ([.blk b6 (.cells #[a0,a1,a2,a3] ab),eJ sp (dt sb pv qv nc fuel used ((g26 st1).length:Int) gv0 cvF nv mo),chI cvR ccsR,noI nv ncs]++au sb mb es3 ck3 tv3 tr3) SP w_:=by rw [hF]; exact hI
      exact ⟨hF_.set 23 trivial,⟨SP,cvF,cvR,ccsR,hN,e19,e20f,e20,e23,k20,k23,hI⟩⟩
     obtain ⟨rfl,rfl,rfl,rfl,Ij,rfl,rfl,rfl,rfl,rfl,rfl,rfl,rfl,rfl,rfl,rfl,TX,rfl,rfl,Uv,Up,rfl,rfl,_,_⟩:=hF_.all
     clear hF_ cJ cH cK cI cN cP cz dC ek fZ dr dM fj gN ic i9 kF n4 rH iZ vB uR vY xi
     obtain ⟨q1,q2⟩:=e20 (by assumption)
     have q3:=e23 (by assumption)
     subst q2
     rw [q3,<- q1] at hI
     refine ⟨SP,_,_,ms++[tr.length],hN,?_,?_,hI⟩
     ·rw [List.zip_append hml.symm]
      exact (hK.ch.monoR fun _ _=>RdCI.mono (hE13.trans hN).1).snoc ⟨a0,a1,a2,a3,.pointer gp,_,by rw [<- hnc],h1.mono (hE13.trans hN).1,h3.mono (hE13.trans hN).1,hL2.mono (hE13.trans hN).1 fun _ _ h=>h⟩ rfl
     ·exact (MkI.push (c:=⟨g,(an:Int),rest,l.drop (k+1),st,nodes.length⟩) hK.mkI).go hTG
    ·have he:l.drop (k+1)=[]:=tM (by omega)
     rw [ai he,cX]
     exact ⟨SN,cv,ccs,ms,Ext.refl _ _ _,hK.ch.monoR fun _ _=>RdCI.mono hE13.1,hK.mkI.go hTG,hI⟩
   clear hI
   intro _ _ _ _ _ _ _ _ _ _ _ _ _ _ _ _ _ _ _ _ _ _ _ _ _ _ _ _ w'
   rintro ⟨SJ,cv',ccs',ms',hEJ,hRJ,hMJ,hI⟩
   have hE1J:=hE13.trans hEJ
   obtain ⟨ng,ncap,hnv,-⟩:=hI.rowPtr (i:=3) rfl (j:=an) (by omega) hK.nd.hk
   subst hnv
   refine ar ?_
   refine ae hI 1 rfl eB iB rfl ?_
   refine aD rp (by omega) ?_
   refine aC Lt ?_
   refine Cf hI 3 (j:=an) (f:=5) rfl aI (by omega) (by omega) (by omega) hK.nd.hk rfl rfl fun w' hI=>?_
   obtain ⟨ncs',hncs⟩:∃ a,a=ncs.set an ((ncs[an]'(by omega)).set 5 (.int .i64 (i:Int))):=⟨_,rfl⟩
   have hI:Inv w X ([.blk b6 (.cells #[a0,a1,a2,a3] ab),eJ sp (dt sb pv qv nc fuel used ((g26 st1).length:Int) gv0 cv' (.slice (some ⟨ng,0,none⟩) ncs.length ncap) mo),chI cv' ccs',noI (.slice (some ⟨ng,0,none⟩) ncs.length ncap) ncs']++au sb mb es3 ck3 tv3 tr3) SJ w':=by
    rw [hncs]
    exact hI
   refine ar ?_
   refine ae (u:=.slice (some ⟨pb,po,none⟩) p.length pcap) hI 1 rfl nG pN (by rw [hpv]; rfl) ?_
   refine aD bi hip ?_
   refine aC bo ?_
   refine cA (v:=kb) ao (by
    rw [hI.cellS (hE1J.1 _ _ hSp)]
    exact aL hce 4 kb (by rw [gP (by omega),hhl]; rfl)) ?_
   have hbd':=hbd.monoT hE1J.1
   have hbl:=hpb cl (du hpi)
   refine aF hbd' ah ?_
   have hI:=hI.rowNil ab 4
   refine ⟨fun ix v w'=>∃ (j:Nat) (css:List (List Value)) (S6:ad),j<=cl.body.length/\ix=.int .i64 (j:Int)/\Ext w.heap.size X SJ S6/\Rows 4 (RdT S6) css ((cl.body.take j).map (dl st1.length))/\
     Inv w X (([.blk b6 (.cells #[a0,a1,a2,a3] ab),eJ sp (dt sb pv qv nc fuel used ((g26 st1).length:Int) gv0 cv' (.slice (some ⟨ng,0,none⟩) ncs.length ncap) mo),chI cv' ccs',noI (.slice (some ⟨ng,0,none⟩) ncs.length ncap) ncs']++au sb mb es3 ck3 tv3 tr3)++[aE v ab 4 css]) S6 w',
    fun ix _ _=>cl.body.length - (intOf ix).toNat,⟨0,[],SJ,aR _,rfl,Ext.refl _ _ _,Rows.nil _ _,hI⟩,?_⟩
   clear hI
   intro xx _ vv _ _ _ _ _ _ _ _ _ _ w'
   rintro ⟨j,css,S6,hj,rfl,hE6,hR6,hI⟩
   refine bL ?_
   refine aH (fun hjl=>?_) (fun hjl=>?_)
   ·have hj':j<cl.body.length:=by omega
    have hcssl:css.length=j:=by rw [hR6.hc,pF,dN]; omega
    have hbt:=hcl1.body _ (bQ hj')
    refine cj hI (hbd'.monoT hE6.1) ah ac hj' (fun _ _=>RdT.length) fun bcs hbcs=>?_
    refine aP hI aZ fun b19 w' hI=>?_
    refine aA hI 8 rfl ac (by simpa using hbcs.length) rfl (by simpa using hbcs.one) fun w' hI=>?_
    refine az hI 8 ac rfl (by simpa using hbcs.length) ?_
    have hI:Inv w X (([.blk b6 (.cells #[a0,a1,a2,a3] ab),eJ sp (dt sb pv qv nc fuel used ((g26 st1).length:Int) gv0 cv' (.slice (some ⟨ng,0,none⟩) ncs.length ncap) mo),chI cv' ccs',noI (.slice (some ⟨ng,0,none⟩) ncs.length ncap) ncs']++au sb mb es3 ck3 tv3 tr3)++[aE vv ab 4 css]) S6 w':=hI.sub (dn _ [Item.blk b19 (.cells bcs.toArray ab)])
    refine Run.call0E gO gU hI (Bb [.pointer (some ⟨b14,0,none⟩)] _ kZ kJ _ S6 bcs hbcs (DU hbt.1.1) hbt.1.2 (hfun.mono (hN.trans (hEJ.trans hE6)).1)) fun v' I' S7 w'=>?_
    rintro ⟨rfl,cs7,rfl,hT⟩ hE7 hI
    rw [pM st1.length _ hbt.1.1] at hT
    have hI:=hI.sub (dn _ _)
    refine cM hI 7 cs7 bA (by omega) (by omega) rfl hT.length hT.one (by omega) (by omega) fun v' w' hI=>?_
    refine bn (by omega) ?_
    refine ⟨⟨j+1,css++[cs7],S7,hj',rfl,hE6.trans hE7,?_,hI⟩,by simp only [intOf,dF]; omega⟩
    rw [fy hj',List.map_append]
    exact (hR6.monoR fun _ _=>RdT.mono hE7.1).snoc hT hT.length
   ·have:j=cl.body.length:=by omega
    subst this
    rw [fM] at hR6
    obtain ⟨S7,hE7,hrd,hI⟩:=hI.lendExt
    have hts:=RowRd.rows (hR6.monoR fun _ _=>RdT.mono hE7.1) hrd
    have hEJ7:=hEJ.trans (hE6.trans hE7)
    refine Run.call0E JE Jl hI (EW hts (h3.mono (hE13.trans hEJ7).1)) fun v' I' S8 w'=>?_
    rintro ⟨rfl,hGL⟩ hE8 hI
    have hI:=hI.sub (dn _ _)
    obtain ⟨gp',rfl⟩:=hGL.ptr
    refine ar ?_
    refine cT hI 1 rfl fR dj rfl rfl rfl fun w' hI=>?_
    have hJ2:Inv w X ([.blk b6 (.cells #[a0,a1,a2,a3] ab),eJ sp (dt sb pv qv nc fuel used ((g26 st1).length:Int) (.pointer gp') cv' (.slice (some ⟨ng,0,none⟩) ncs.length ncap) mo),chI cv' ccs',noI (.slice (some ⟨ng,0,none⟩) ncs.length ncap) ncs']++au sb mb es3 ck3 tv3 tr3) S8 w':=hI
    repeat clear hI
    refine ⟨fun D PJ Oi Pw TO Tc Tt SR Ug Py OK OV NV NY w_=>Fx D 0 [NY=.pointer (some ⟨sp,0,none⟩),NV=.pointer (some ⟨sp,0,none⟩),OV=.pointer (some ⟨sp,0,none⟩),OK=.pointer (some ⟨sp,11,none⟩),Py=.int .i64 mo,Ug=.pointer (some ⟨sp,0,none⟩),SR=.pointer (some ⟨sp,0,none⟩),Tt=.pointer (some ⟨sp,9,none⟩),Tc=cv',TO=.int .i64 (ccs'.length:Int),Pw=.int .i64 (if mo<(ccs'.length:Int) then (ccs'.length:Int) else mo),Oi=.pointer (some ⟨sp,0,none⟩),PJ=.pointer (some ⟨sp,11,none⟩),True]/\∃ moF:Int,(D 13=false->mo=moF)/\(D 13=true->D 4=true)/\Inv w X ([.blk b6 (.cells #[a0,a1,a2,a3] ab),eJ sp (dt sb pv qv nc fuel used ((g26 st1).length:Int) (.pointer gp') cv' (.slice (some ⟨ng,0,none⟩) ncs.length ncap) moF),chI cv' ccs',noI (.slice (some ⟨ng,0,none⟩) ncs.length ncap) ncs']++au sb mb es3 ck3 tv3 tr3) S8 w_,⟨Fx.nil _ _,⟨mo,fun _=>rfl,aQ,hJ2.draw⟩⟩,⟨?_,?_,?_,?_,?_,?_,?_,?_,?_,?_,?_,?_,?_,?_,trivial⟩,?_⟩
    all_goals (intro D bI; intros; rename_i PJ Oi Pw TO Tc Tt SR Ug Py OK OV NV NY w_ hA_; have hF_:=hA_.1; obtain ⟨⟨cJ,cH,cK,cI,cN,cP,cz,dC,ek,fZ,dr,dM,fj,gN,_⟩,⟨moF,e13,k13,hI⟩⟩:=hA_)
    ·exact ⟨hF_.set 0 rfl,⟨moF,e13,k13,hI⟩⟩
    ·exact ⟨hF_.set 1 rfl,⟨moF,e13,k13,hI⟩⟩
    ·obtain rfl:=cH ‹_›
     refine ar ?_
     exact ⟨hF_.set 2 rfl,⟨moF,e13,k13,hI⟩⟩
    ·obtain rfl:=cK ‹_›
     refine aC rT ?_
     exact ⟨hF_.set 3 rfl,⟨moF,e13,k13,hI⟩⟩
    ·obtain rfl:=cI ‹_›
     have f13:D 13=false:=cq.2 fun h=>by rw [k13 h] at bI; cases bI
     have q:=e13 f13
     refine bb (b:=sp) (v:=.int .i64 mo) hI 1 (c:=dt sb pv qv nc fuel used ((g26 st1).length:Int) (.pointer gp') cv' (.slice (some ⟨ng,0,none⟩) ncs.length ncap) moF) aI rfl (by rw [q]; rfl) ?_
     have k13:aB D 4 13=true->aB D 4 4=true:=fun _=>rfl
     exact ⟨hF_.set 4 rfl,⟨moF,e13,k13,hI⟩⟩
    ·exact ⟨hF_.set 5 rfl,⟨moF,e13,k13,hI⟩⟩
    ·obtain rfl:=cP ‹_›
     refine ar ?_
     exact ⟨hF_.set 6 rfl,⟨moF,e13,k13,hI⟩⟩
    ·obtain rfl:=cz ‹_›
     refine aC dp ?_
     exact ⟨hF_.set 7 rfl,⟨moF,e13,k13,hI⟩⟩
    ·obtain rfl:=dC ‹_›
     refine bb (b:=sp) (v:=cv') hI 1 (c:=dt sb pv qv nc fuel used ((g26 st1).length:Int) (.pointer gp') cv' (.slice (some ⟨ng,0,none⟩) ncs.length ncap) moF) dG rfl rfl ?_
     exact ⟨hF_.set 8 (by first|assumption|trivial),⟨moF,e13,k13,hI⟩⟩
    ·have NO:=ek ‹_›
     refine iI (e:=dB) (k:=9) (n:=ccs'.length) (xs:=ccs'.flatten) hI 2 (by rw [NO]; rfl) fJ ?_
     exact ⟨hF_.set 9 rfl,⟨moF,e13,k13,hI⟩⟩
    ·obtain rfl:=cN ‹_›
     obtain rfl:=fZ ‹_›
     refine Tv ?_
     exact ⟨hF_.set 10 rfl,⟨moF,e13,k13,hI⟩⟩
    ·obtain rfl:=cJ ‹_›
     refine ar ?_
     exact ⟨hF_.set 11 rfl,⟨moF,e13,k13,hI⟩⟩
    ·obtain rfl:=dM ‹_›
     refine aC rT ?_
     exact ⟨hF_.set 12 rfl,⟨moF,e13,k13,hI⟩⟩
    ·obtain rfl:=fj ‹_›
     obtain rfl:=dr ‹_›
     refine df hI 1 (n:=1) rfl (by rw [aI]; rfl) rfl (jS rfl) (by simp [Value.cells,Value.oneCell']) fun w_ hI=>?_
     obtain ⟨moF,hF⟩:∃ a,a=(if mo<(ccs'.length:Int) then (ccs'.length:Int) else mo):=⟨_,rfl⟩
     have e13:aB D 13 13=false->mo=moF:=fun h=>Bool.noConfusion h
     have k13:aB D 13 13=true->aB D 13 4=true:=fun _=>by assumption
     have hI:Inv w X ([.blk b6 (.cells #[a0,a1,a2,a3] ab),eJ sp (dt sb pv qv nc fuel used ((g26 st1).length:Int) (.pointer gp') cv' (.slice (some ⟨ng,0,none⟩) ncs.length ncap) moF),chI cv' ccs',noI (.slice (some ⟨ng,0,none⟩) ncs.length ncap) ncs']++au sb mb es3 ck3 tv3 tr3) S8 w_:=by rw [hF]; exact hI
     exact ⟨hF_.set 13 trivial,⟨moF,e13,k13,hI⟩⟩
    obtain ⟨rfl,rfl,rfl,rfl,rfl,rfl,rfl,rfl,NO,rfl,rfl,rfl,rfl,_,_⟩:=hF_.all
    clear hF_ cJ cH cK cI cN cP cz dC ek fZ dr dM fj gN
    have hE38:=hEJ7.trans hE8
    have hsh:=hTr3.short
    have hu26:unb (g26 st1)=unb st1+26:=by unfold Go.Proofs.YtcpgagfdeflbkaaGreatDoor.g26; rw [nP]
    refine ⟨_,_,S8,rfl,hI.sub (gk _ _),hE13.trans hE38,rfl,es3,ck3,tv3,tr3,ms',_,cv',ccs',_,ncs',_,by rw [n6]; rfl,?_,hkm3.upS hE38.1,hRJ.monoR fun _ _=>RdCI.mono ((hE6.trans hE7).trans hE8).1,?_,hMJ,by show tr3.length+unb st2<=st2.length; omega⟩
    ·show GL S8 _ (r2 cl st1.length chs.length an rest)
     rw [List.map_map,hcc] at hGL
     exact hGL
    ·show Rows 6 (RdNI S8) ncs' (Fr nodes (an:Int).toNat i)
     rw [dF,O7 _ _ _ han,hncs]
     obtain ⟨c0,c1,c2,c3,hce,hct⟩:=hK.nd.hR an han (by omega)
     refine (hK.nd.monoR fun _ _=>RdNI.mono (hE13.trans hE38).1).set an ⟨c0,c1,c2,c3,by rw [hce]; rfl,hct.mono (hE13.trans hE38).1⟩ ?_
     rw [oI]
     exact hK.nd.hk _ (bQ _)
  ·refine aw (fun _=>?_) (fun hb=>by cases hb)
   refine ar ?_
   refine ae hI 1 rfl fb eE rfl ?_
   obtain ⟨ns,rfl,hund,hnn,hsh⟩:=hTr3
   have h26:unb (g26 st1)=unb st1+26:=by unfold g26; rw [nP]
   refine Run.callE (A:=[_,_,_,_]) jb jd hI (sQ (mark:=tr.length) hkm3 (by simp) (fun n hn=>by
    rw [Me] at hn
    obtain ⟨j,rfl,_⟩:=hnn n hn
    omega) (by rw [bh]; omega)) fun v' I' S4 w'=>?_
   rintro ⟨eS,rfl,es4,tv4,rfl,hkm4⟩ _ hI
   rw [eS] at hI
   rw [Me,hund] at hkm4
   rw [BZ] at hI
   refine bn (by omega) ?_
   refine ⟨⟨k+1,g26 st1,es4,ck3,tv4,SN,hk',rfl,ht2,?_,by rw [n6]; omega,hE13,hkm4,hI⟩,by simp only [intOf,dF]; omega⟩
   rw [n6,hst1,BU hs1,dI hs1]
 ·have:k=l.length:=by omega
  subst this
  rw [dP] at ht1
  cases ht1
  refine ⟨_,_,S1,rfl,hI.sub (gk _ _),hE1,rfl,es1,ck1,tv1,tr,ms,gv0,cv,ccs,nv,ncs,mo,rfl,rfl,rfl,rfl,?_⟩
  have hK1:=hK.mono hE1.1
  refine ⟨by rw [<- hst1]; exact hkm1,hK1.ch,hK1.nd,hK1.mkI.go (TrG.grow st tr (by omega)),?_⟩
  have:=hK.tb
  rw [<- hst1,hst1,dI (by omega)]
  unfold bU
  rw [nP]
  omega
end
end
end Go.Proofs.YtcpgagfdeflbkaaGreatDoor
