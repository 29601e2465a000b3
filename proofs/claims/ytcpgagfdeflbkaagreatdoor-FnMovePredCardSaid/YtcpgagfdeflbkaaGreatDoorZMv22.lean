/- impl's search in memory: the list of goals, and put. -/
import Derived.Test.YtcpgagfdeflbkaaGreatDoorZMv21
import Derived.Test.YtcpgagfdeflbkaaGreatDoorZMv19
import Derived.Test.YtcpgagfdeflbkaaGreatDoorZMv12
namespace Go.Proofs.YtcpgagfdeflbkaaGreatDoor
section
open Go Go.RowKit
inductive GL (S:ad):Value->List GI->Prop
 | nil:GL S (.pointer none) []
 | cons {b:Nat} {a0 a1 a2 a3 nv:Value} {E:TypeId} {fz:Nat × Nat} {g:GI} {gs:List GI}:S b=some (.cells #[a0,a1,a2,a3,.int .i64 g.cut,.int .i64 g.up,nv] E fz)->RdT S [a0,a1,a2,a3] g.t->GL S nv gs->GL S (.pointer (some ⟨b,0,none⟩)) (g::gs)
theorem GL.mono {S S':ad} (hs:Sle S S') {v:Value} {gs:List GI} (h:GL S v gs):GL S' v gs:=by
 induction h with
 | nil=>exact .nil
 | cons h1 h2 _ ih=>exact .cons (hs _ _ h1) (h2.mono hs) ih
theorem GL.ptr {S:ad} {v:Value} {gs:List GI} (h:GL S v gs):∃ p,v=.pointer p:=by
 cases h with
 | nil=>exact ⟨_,rfl⟩
 | cons=>exact ⟨_,rfl⟩
theorem RdT.four {S:ad} {cs:List Value} {t:T} (h:RdT S cs t):∃ a0 a1 a2 a3,cs=[a0,a1,a2,a3]:=by
 obtain ⟨kv,rfl,_⟩:=RdT.iff.1 h
 exact ⟨_,_,_,_,rfl⟩
section
variable {w:World} {K:Value->World->Prop}
attribute [local irreducible] Run
theorem Jh {a b c d:Value} {i j:Int} {p:Option Addr} (hk:K (.agg #[a,b,c,d,.int .i64 i,.int .i64 j,.pointer p]) w):Run Tryz.prog (bJ ju [(0,.agg #[a,b,c,d]),(1,.int .i64 i),(2,.int .i64 j),(3,.pointer p)]) w K:=by
 refine Run.of (v:=.agg #[a,b,c,d,.int .i64 i,.int .i64 j,.pointer p]) (w':=w) ?_ hk
 unfold bJ
 rw [Sem.run_bind,run_build w ju _ #[a,b,c,d,.int .i64 i,.int .i64 j,.pointer p] (by kernel_rfl),Result.andThen_ok]
 rfl
theorem Fp {a b c d:Value} {i j:Int} (hk:K (.agg #[a,b,c,d,.int .i64 i,.int .i64 j]) w):Run Tryz.prog (bJ hH [(0,.agg #[a,b,c,d]),(1,.int .i64 i),(2,.int .i64 j)]) w K:=by
 refine Run.of (v:=.agg #[a,b,c,d,.int .i64 i,.int .i64 j]) (w':=w) ?_ hk
 unfold bJ
 rw [Sem.run_bind,run_build w hH _ #[a,b,c,d,.int .i64 i,.int .i64 j] (by kernel_rfl),Result.andThen_ok]
 rfl
theorem zU {a b c d:Value} {i j k:Int} {p:Option Addr} {q:Option Addr} {n m:Nat} (hk:K (.agg #[a,b,c,d,.int .i64 i,.pointer p,.slice q n m,.int .i64 j,.int .i64 k]) w) :
  Run Tryz.prog (bJ cO [(0,.agg #[a,b,c,d]),(1,.int .i64 i),(2,.pointer p),(3,.slice q n m),(4,.int .i64 j),(5,.int .i64 k)]) w K:=by
 refine Run.of (v:=.agg #[a,b,c,d,.int .i64 i,.pointer p,.slice q n m,.int .i64 j,.int .i64 k]) (w':=w) ?_ hk
 unfold bJ
 rw [Sem.run_bind,run_build w cO _ #[a,b,c,d,.int .i64 i,.pointer p,.slice q n m,.int .i64 j,.int .i64 k] (by kernel_rfl),Result.andThen_ok]
 rfl
end
section
attribute [local irreducible] Run CondV ao aI
theorem Aw {ts:List T} {S:ad} {v gv:Value} {gs:List GI} {cut up:Int} (h:RdSl S 4 (RdT S) v ts) (hg:GL S gv gs):Tri Tryz.prog Mf [v,.int .i64 cut,.int .i64 up,gv] [] S fun q I' S'=>I'=[]/\GL S' q (ts.map (fun t=>⟨t,cut,up⟩)++gs):=by
 intro w hI
 have hlen:=h.le
 simp only [maxLen] at hlen
 refine Fz.2 ?_
 dsimp only[Fz,gX]
 refine aD h ag ?_
 refine jk (by omega) ?_
 refine ⟨fun i q w'=>∃ (j:Nat) (S1:ad),j<=ts.length/\i=.int .i64 ((j:Int) - 1)/\Ext w.heap.size [] S S1/\GL S1 q ((ts.drop j).map (fun t=>⟨t,cut,up⟩)++gs)/\Inv w [] [] S1 w',fun i _ _=>((intOf i)+1).toNat,
  ⟨ts.length,S,Nat.le_refl _,rfl,Ext.refl _ _ _,by rw [List.drop_length]; exact hg,hI⟩,?_⟩
 intro t9 _ _ t3 _ _ _ _ _ _ _ _ _ _ _ w'
 rintro ⟨j,S1,hj,rfl,hE,hgl,hI⟩
 refine li ?_
 refine aH (fun h0=>?_) (fun h0=>?_)
 ·obtain ⟨k,rfl⟩:∃ k,j=k+1:=⟨j - 1,by omega⟩
  have hk:k<ts.length:=by omega
  rw [show (((k+1:Nat):Int) - 1)=(k:Int) by omega]
  refine bM hI (h.monoT hE.1) ag ac hk (fun _ _=>RdT.length) fun cs hcs=>?_
  obtain ⟨a0,a1,a2,a3,rfl⟩:=hcs.four
  obtain ⟨p,rfl⟩:=hgl.ptr
  refine Jh ?_
  refine bl hI fun b w' hI=>?_
  have hI:Inv w [] ([]++[.blk b (.cells #[a0,a1,a2,a3,.int .i64 cut,.int .i64 up,.pointer p] ju)]) S1 w':=hI
  obtain ⟨S2,hI,hE2,hS2⟩:=Inv.pub1 hI
  refine jk (by omega) ?_
  refine ⟨⟨k,S2,by omega,rfl,hE.trans hE2,?_,hI⟩,by simp only [intOf]; omega⟩
  rw [List.drop_eq_getElem_cons hk,List.map_cons,List.cons_append]
  exact GL.cons hS2 (hcs.mono hE2.1) (hgl.mono hE2.1)
 ·have:j=0:=by omega
  subst this
  exact ⟨_,_,S1,rfl,hI,hE,rfl,by simpa using hgl⟩
theorem Ji {S:ad} {b:Nat} {by_:Int} {E:TypeId} {fz:Nat × Nat} (hb:S b=some (.cells #[.int .i64 by_] E fz)) (h0:0<=by_/\by_<=10000000):Fun ki [.pointer (some ⟨b,0,none⟩)] S fun n=>.mk 1 (n+by_) ⟨#[]⟩ []:=by
 intro S' hle n hn0 hn25
 have hb':=hle _ _ hb
 refine ⟨[.int .i64 1,.int .i64 (n+by_),.string ⟨#[]⟩,.slice none 0 0],RdT.nil (by simp [inI]) (by simp only [inI]; omega) (show 0<=maxLen from Nat.zero_le _) (by simp [maxLen]),fun w hI=>?_⟩
 refine jC.2 ?_
 dsimp only[jC,aR]
 refine aL hI aW fun b2 w' hI=>?_
 refine bW aF (by rw [hI.cellS hb']; rfl) ?_
 refine bi (by omega) ?_
 refine Run.callPure jU jH hI (iE _ S') fun w' hI=>?_
 refine au hI 0 rfl ac rfl rfl (by simp [Value.oneCell']) fun w' hI=>?_
 refine be hI 0 ac rfl rfl ?_
 exact done hI rfl
end
mutual
theorem nM {N:Nat} (b:Nat):∀ t:T,okU N t->Ao (fun n=>.mk 1 (n+(b:Int)) ⟨#[]⟩ []) t=cH b t
 | .mk k n s ks,h=>by
  rw [okU] at h
  rw [Ao,cH]
  by_cases hk:k=1
  ·have h1:=h.2.1 hk
   rw [if_pos hk,if_pos hk,h1.2.2.2,eB,h1.2.2.1,hk]
   rfl
  ·rw [if_neg hk,if_neg hk,qW b ks h.2.2.1]
theorem qW {N:Nat} (b:Nat):∀ ts:List T,cD N ts->qZ (fun n=>.mk 1 (n+(b:Int)) ⟨#[]⟩ []) ts=eB b ts
 | [],_=>rfl
 | t::ts,h=>by
  rw [cD] at h
  rw [qZ,eB,nM b t h.1,qW b ts h.2]
end
end
section
open Go Go.RowKit
theorem vy {k f:Nat} {x:Value}:∀ (css:List (List Value)) (j:Nat) (_:∀ cs∈css,cs.length=k) (h:j<css.length) (_:f<k),css.flatten.set (j * k+f) x=(css.set j (css[j].set f x)).flatten
 | [],j,_,h,_=>by simp at h
 | c::css,0,hk,_,hf=>by
  have:=hk c (List.mem_cons_self ..)
  rw [List.flatten_cons,Nat.zero_mul,Nat.zero_add,List.set_append_left _ _ (by omega)]
  rfl
 | c::css,j+1,hk,h,hf=>by
  have hc:=hk c (List.mem_cons_self ..)
  have ih:=vy (x:=x) css j (fun cs hcs=>hk cs (List.mem_cons_of_mem _ hcs)) (by simpa using h) hf
  have e:(j+1) * k+f=c.length+(j * k+f):=by rw [Nat.succ_mul,hc]; omega
  rw [List.flatten_cons,e,List.set_append_right _ _ (by omega),Nat.add_sub_cancel_left,ih]
  rfl
theorem Cx (c:Array Value) (p:Nat) (x:Value) (h:p<c.size):(bz c p [x]).toList=c.toList.set p x:=by
 unfold bz
 rw [List.set_eq_take_append_cons_drop,if_pos (by simpa using h)]
 simp
theorem Rows.set {α:Type} {k:Nat} {R:List Value->α->Prop} {css:List (List Value)} {ys:List α} (h:Rows k R css ys) {cs:List Value} {y:α} (j:Nat) (hR:R cs y) (hl:cs.length=k):Rows k R (css.set j cs) (ys.set j y):=by
 refine ⟨by rw [List.length_set,List.length_set,h.hc],fun c hc=>?_,fun i h0 h2=>?_⟩
 ·rcases List.mem_or_eq_of_mem_set hc with hc|rfl
  ·exact h.hk c hc
  ·exact hl
 ·rw [List.getElem_set,List.getElem_set]
  split
  ·exact hR
  ·exact h.hR i (by simpa using h0) (by simpa using h2)
theorem Rows.take {α:Type} {k:Nat} {R:List Value->α->Prop} {css:List (List Value)} {ys:List α} (h:Rows k R css ys) (n:Nat):Rows k R (css.take n) (ys.take n):=by
 have:=h.hc
 refine ⟨by rw [List.length_take,List.length_take,h.hc],fun c hc=>h.hk c (List.mem_of_mem_take hc),fun i h0 h2=>?_⟩
 rw [List.length_take] at h0
 simp only [List.getElem_take]
 exact h.hR i (by omega) (by omega)
theorem sS {k:Nat}:∀ (css:List (List Value)) (n:Nat) (_:∀ cs∈css,cs.length=k),css.flatten.take (n * k)=(css.take n).flatten
 | [],n,_=>by simp
 | c::css,0,_=>by simp
 | c::css,n+1,hk=>by
  have hc:=hk c (List.mem_cons_self ..)
  have ih:=sS css n fun cs hcs=>hk cs (List.mem_cons_of_mem _ hcs)
  rw [List.flatten_cons,Nat.succ_mul,Nat.add_comm,List.take_append,List.take_of_length_le (by omega),hc,Nat.add_sub_cancel_left,ih]
  rfl
def LH (v:Value) (h:Nat):Value:=match v with
 | .slice a _ cap=>.slice a h cap
 | v=>v
section
variable {P:Program} {w w0:World} {X:List Nat} {L:List Item} {S:ad} {K:Value->World->Prop}
attribute [local irreducible] Run CondV ao aI
theorem Inv.swapItem (h:Inv w0 X L S w) {i:Nat} {a b:Item} (hi:L[i]?=some a) (hf:b.foot=a.foot) (hb:b.holds w):Inv w0 X (L.set i b) S w:=by
 have hl:=(List.getElem?_eq_some_iff.1 hi).1
 have hfe:bp (L.set i b)=bp L:=by
  have e:L.map Item.foot=(L.set i b).map Item.foot:=by
   rw [List.map_set,hf]
   apply List.ext_getElem?
   intro j
   rw [List.getElem?_set]
   split
   ·rename_i e
    subst e
    rw [if_pos (by simpa using hl),List.getElem?_map,hi]
    rfl
   ·rfl
  unfold bp
  rw [List.flatMap_def,List.flatMap_def]
  congr 1
  rw [List.map_set]
  apply List.ext_getElem?
  intro j
  rw [List.getElem?_set]
  split
  ·rename_i e
   subst e
   rw [if_pos (by simpa using hl),List.getElem?_map,hi]
   simp [hf]
  ·rfl
 refine ⟨h.size,h.os,h.tape,h.output,h.old,fun it hit=>?_,by rw [hfe]; exact h.nd,by rw [hfe]; exact h.new,by rw [hfe]; exact h.pub⟩
 rcases List.mem_or_eq_of_mem_set hit with hit|rfl
 ·exact h.its it hit
 ·exact hb
theorem Inv.rowSlice' (h:Inv w0 X L S w) {i k n:Nat} {e:TypeId} {v:Value} {xs:List Value} (hi:L[i]?=some (.row v e k n xs)):∃ a cap,v=.slice a n cap/\n<=cap:=by
 have hm:w.ownsRow 0 e k v n xs:=h.its (.row v e k n xs) (List.mem_of_getElem? hi)
 rcases hm.2 with ⟨rfl,hn⟩|⟨g,cap,cur,rfl,_,_,hn,_⟩
 ·exact ⟨_,_,by rw [hn],by omega⟩
 ·exact ⟨_,_,rfl,hn⟩
theorem Inv.cutRow (h:Inv w0 X L S w) {i k:Nat} {e:TypeId} {v:Value} {css:List (List Value)} (hi:L[i]?=some (aB v e k css)) {n:Nat} (hn:n<=css.length) (hk:∀ cs∈css,cs.length=k):Inv w0 X (L.set i (aB (LH v n) e k (css.take n))) S w:=by
 have hm:w.ownsRow 0 e k v css.length css.flatten:=h.its _ (List.mem_of_getElem? hi)
 refine h.swapItem hi ?_ ?_
 ·obtain ⟨a,cap,rfl,_⟩:=h.rowSlice' hi
  cases a <;> rfl
 ·show w.ownsRow 0 e k (LH v n) (css.take n).length (css.take n).flatten
  have hl:(css.take n).length=n:=by rw [List.length_take]; omega
  refine ⟨jn fun cs hc=>hk cs (List.mem_of_mem_take hc),?_⟩
  rcases hm.2 with ⟨rfl,h0⟩|⟨g,cap,cur,rfl,h1,h2,h3,h4,h5,h6⟩
  ·left
   have:n=0:=by omega
   subst this
   exact ⟨rfl,by simp⟩
  ·right
   refine ⟨g,cap,cur,by rw [hl]; rfl,h1,h2,by omega,h4,h5,?_⟩
   rw [hl,<- sS css n hk,<- h6,List.take_take,Nat.min_eq_left (Nat.mul_le_mul_right k hn)]
theorem GS (h:Inv w0 X L S w) (i:Nat) {T ty e:TypeId} {k n m:Nat} {v:Value} {xs:List Value} (hi:L[i]?=some (.row v e k m xs)) (hT:bX P T=some (e,k)) (hn:n<=m) (hk:K (LH v n) w) :
  Run P (sOp (.slice T (.const v) none (some (.const (.int .i64 n))) none) ty) w K:=by
 obtain ⟨a,cap,rfl,hc⟩:=h.rowSlice' hi
 refine Dr hT (by omega) ?_
 cases a with
 | none=>split <;> exact hk
 | some a=>
  split
  ·exact hk
  ·obtain ⟨b,o,p⟩:=a
   have hm:w.ownsRow 0 e k (.slice (some ⟨b,o,p⟩) m cap) m xs:=h.its _ (List.mem_of_getElem? hi)
   rcases hm.2 with ⟨h0,_⟩|⟨g,cap',cur,h0,_⟩
   ·cases h0
   ·cases h0
    simpa [jw,LH] using hk
theorem Inv.rowPtr (h:Inv w0 X L S w) {i k:Nat} {e:TypeId} {v:Value} {css:List (List Value)} (hi:L[i]?=some (aB v e k css)) {j:Nat} (hj:j<css.length) (hk:∀ cs∈css,cs.length=k) :
  ∃ g cap,v=.slice (some ⟨g,0,none⟩) css.length cap/\(∀ f u,css[j][f]?=some u->w.cell? ⟨g,j * k+f,none⟩=some u):=by
 have hm:w.ownsRow 0 e k v css.length css.flatten:=h.its _ (List.mem_of_getElem? hi)
 rcases hm.2 with ⟨_,h0⟩|⟨g,cap,cur,rfl,h1,h2,h3,h4,h5,h6⟩
 ·omega
 ·refine ⟨g,cap,rfl,fun f u hf=>?_⟩
  rw [cell_of_row w g (j * k+f) cur e (0,0) h2]
  have hfl:=gh k css j hk hj
  have hfk:f<k:=by have:=(List.getElem?_eq_some_iff.1 hf).1; have:=hk _ (List.getElem_mem hj); omega
  rw [<- hfl,List.getElem?_take,if_pos hfk,List.getElem?_drop,<- h6,List.getElem?_take] at hf
  split at hf
  ·simpa using hf
  ·cases hf
theorem y5 (h:Inv w0 X L S w) {T ty e:TypeId} (i:Nat) {g cap k j f a:Nat} {css:List (List Value)} {x:Value} (hi:L[i]?=some (aB (.slice (some ⟨g,0,none⟩) css.length cap) e k css)) (hT:fZ P T=true) (hj:j<css.length) (hf:f<k) (ha:a=j * k+f)
  (hkl:∀ cs∈css,cs.length=k) (hx:x.cells=#[x]) (h1:x.oneCell'=true)
  (hk:∀ w',Inv w0 X (L.set i (aB (.slice (some ⟨g,0,none⟩) css.length cap) e k (css.set j (css[j].set f x)))) S w'->K undef w') :
  Run P (sOp (.store T (.const (.pointer (some ⟨g,a,none⟩))) (.const x)) ty) w K:=by
 subst ha
 have hil:=(List.getElem?_eq_some_iff.1 hi).1
 have hie:=(List.getElem?_eq_some_iff.1 hi).2
 have hp:List.Perm L ((L.take i++L.drop (i+1))++[aB (.slice (some ⟨g,0,none⟩) css.length cap) e k css]):=by
  conv=>lhs; rw [<- List.take_append_drop i L,List.drop_eq_getElem_cons hil,hie]
  rw [List.append_assoc]
  exact List.Perm.append_left _ (List.perm_append_comm (l₁:=[_]))
 have hI:=h.perm hp.symm
 obtain ⟨_,ho⟩:=Inv.openRow hI
 rcases ho with ⟨h0,_⟩|⟨g',cap',cur,h0,hnc,hcm,hcs,ht,hI⟩
 ·cases h0
 cases h0
 have hlt:j * k+f<css.length * k:=by
  have:(j+1) * k<=css.length * k:=Nat.mul_le_mul_right k hj
  rw [Nat.succ_mul] at this
  omega
 have hcap:css.length * k<=cap * k:=Nat.mul_le_mul_right k hnc
 refine cB hI (L.take i++L.drop (i+1)).length (n:=1) (by rw [hx]; rfl) (by rw [hT]; rfl) (by rw [List.getElem?_append_right (Nat.le_refl _),Nat.sub_self]; rfl) (by omega) (by rw [hx]; simpa using h1) fun w' hI=>hk w' ?_
 rw [List.set_append_right _ _ (Nat.le_refl _),Nat.sub_self] at hI
 have hI:Inv w0 X ((L.take i++L.drop (i+1))++[.blk g (.cells (bz cur (j * k+f) x.cells.toList) e)]) S w':=hI
 rw [show x.cells.toList=[x] by rw [hx]] at hI
 have hI:=Inv.closeRow (n:=css.length) (cap:=cap) (k:=k) hI hnc hcm (by rw [jJ _ _ _ (by simp; omega)]; exact hcs)
 rw [Cx _ _ _ (by omega),List.take_set,ht,vy css j hkl hj hf] at hI
 refine hI.perm ?_
 rw [List.set_eq_take_append_cons_drop,if_pos hil,List.append_assoc]
 refine List.Perm.append_left _ ?_
 rw [show Item.row (.slice (some ⟨g,0,none⟩) css.length cap) e k css.length (css.set j (css[j].set f x)).flatten=aB (.slice (some ⟨g,0,none⟩) css.length cap) e k (css.set j (css[j].set f x)) by simp [aB]]
 exact (List.perm_append_comm (l₁:=[_]))
end
end
end Go.Proofs.YtcpgagfdeflbkaaGreatDoor
